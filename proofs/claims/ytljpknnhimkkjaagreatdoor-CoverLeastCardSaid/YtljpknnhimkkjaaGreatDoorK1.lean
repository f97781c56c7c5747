/- Parts of a proof: the symbolic walk and what it shows of single functions. -/
import Derived.Test.YtljpknnhimkkjaaGreatDoorX4
import Derived.Test.YtljpknnhimkkjaaGreatDoorX3
set_option linter.all false
namespace Go.Proofs.YtljpknnhimkkjaaGreatDoor
open Go.RowKit Go.SX
set_option maxRecDepth 4000
set_option maxHeartbeats 4000000
set_option linter.unusedSimpArgs false
set_option linter.unusedVariables false
abbrev wrK (n:Int):Int:=IntKind.i64.wrap n
def det0K:Nat → List Value → Option Value:=fun _ _=>none
theorem det0K_ok (w0:World) (X:Nat → Prop):DetFn Tryz.prog ⟨w0,X⟩ det0K:=fun _ _ _ h=>by cases h
theorem det_of_fnK {g:Nat} {args:List Value} {v:Value} {w:World} (h:SX.Fn Tryz.prog g args w (fun _=>False) fun u N=>u = v):Calls Tryz.prog g args.toArray w fun e w'=>e = .returned v ∧ Keep (fun _=>False) w w':=
 Calls.mono h fun e w' ⟨u,N,he,hk,_,_,_,hu⟩=>⟨by rw [he,hu],hk⟩
theorem getD_atK {α:Type} {l:List α} {k:Nat} (h:k < l.length) (d:α):l[k]? = some (l.getD k d):=by
 rw [List.getD_eq_getElem?_getD,List.getElem?_eq_getElem h]; rfl
def inBK (n l h:Int):Bool:=decide (l ≤ n ∧ n ≤ h)
theorem inB_iffK (n a b:Int):inBK n a b = true ↔ a ≤ n ∧ n ≤ b:=by
 unfold inBK
 try simp
theorem within_fnK (w:World) (n l h:Int):SX.Fn Tryz.prog 67 [I n,I l,I h] w (fun _=>False) fun v N=>v = .bool (inBK n l h):=by
 refine walk [] [] (det0K_ok _ _) Tryz.func67 rfl Tryz.ntmps67 res67 (by kernel_rfl) no_facts ?_
 simp (config := { maxSteps := 4000000 }) only [↓sxw,sxw,tf67,sxu,sxl,sxm,simprocAttr]
 unfold inBK
 exact ⟨fun h1=>by simp [h1],fun h1=>by simp [h1]⟩
theorem from_fnK (w:World) (n l h:Int):SX.Fn Tryz.prog 107 [I n,I l,I h] w (fun _=>False) fun v N=>v = .bool (inBK n l h):=by
 refine walk [] [] (det0K_ok _ _) Tryz.func107 rfl Tryz.ntmps107 res107 (by kernel_rfl) no_facts ?_
 simp (config := { maxSteps := 4000000 }) only [↓sxw,sxw,tf107,sxu,sxl,sxm,simprocAttr]
 unfold inBK
 exact ⟨fun h1=>by simp [h1],fun h1=>by simp [h1]⟩
def det1:Nat → List Value → Option Value
 | 67,[.int .i64 n,.int .i64 l,.int .i64 h]=>some (.bool (inBK n l h))
 | 107,[.int .i64 n,.int .i64 l,.int .i64 h]=>some (.bool (inBK n l h))
 | _,_=>none
theorem det1_ok (w0:World) (X:Nat → Prop):DetFn Tryz.prog ⟨w0,X⟩ det1:=by
 intro g args v h w hk
 unfold det1 at h
 split at h
 ·cases h
  exact det_of_fnK (within_fnK w _ _ _)
 ·cases h
  exact det_of_fnK (from_fnK w _ _ _)
 ·cases h
theorem det1_eq:(∀ n l h:Int,det1 67 [I n,I l,I h] = some (.bool (inBK n l h))) ∧ (∀ n l h:Int,det1 107 [I n,I l,I h] = some (.bool (inBK n l h))):=⟨fun _ _ _=>rfl,fun _ _ _=>rfl⟩
theorem isSet_fn (w:World) (n:Int):SX.Fn Tryz.prog 122 [I n] w (fun _=>False) fun v N=>v = .bool (inBK n 0 255):=by
 refine walk [] [] (det1_ok _ _) Tryz.func122 rfl Tryz.ntmps122 res122 (by kernel_rfl) no_facts ?_
 simp (config := { maxSteps := 4000000 }) only [↓sxw,sxw,tf122,sxu,sxl,sxm,simprocAttr,det1_eq]
theorem isSkills_fn (w:World) (n:Int):SX.Fn Tryz.prog 153 [I n] w (fun _=>False) fun v N=>v = .bool (inBK n 0 255):=by
 refine walk [] [] (det1_ok _ _) Tryz.func153 rfl Tryz.ntmps153 res153 (by kernel_rfl) no_facts ?_
 simp (config := { maxSteps := 4000000 }) only [↓sxw,sxw,tf153,sxu,sxl,sxm,simprocAttr,det1_eq]
def detAK:Nat → List Value → Option Value
 | 122,[.int .i64 n]=>some (.bool (inBK n 0 255))
 | 153,[.int .i64 n]=>some (.bool (inBK n 0 255))
 | g,xs=>det1 g xs
theorem detAK_ok (w0:World) (X:Nat → Prop):DetFn Tryz.prog ⟨w0,X⟩ detAK:=by
 intro g args v h w hk
 unfold detAK at h
 split at h
 ·cases h
  exact det_of_fnK (isSet_fn w _)
 ·cases h
  exact det_of_fnK (isSkills_fn w _)
 ·exact det1_ok w0 X _ _ _ h w hk
theorem detA_eqK:(∀ n l h:Int,detAK 67 [I n,I l,I h] = some (.bool (inBK n l h))) ∧ (∀ n l h:Int,detAK 107 [I n,I l,I h] = some (.bool (inBK n l h))) ∧ (∀ n:Int,detAK 122 [I n] = some (.bool (inBK n 0 255))) ∧ (∀ n:Int,detAK 153 [I n] = some (.bool (inBK n 0 255))):=⟨fun _ _ _=>rfl,fun _ _ _=>rfl,fun _=>rfl,fun _=>rfl⟩
theorem badSet_fn (w:World) (n:Int):SX.Fn Tryz.prog 159 [I n] w (fun _=>False) fun v N=>v = .bool (!inBK n 0 255):=by
 refine walk [] [] (detAK_ok _ _) Tryz.func159 rfl Tryz.ntmps159 res159 (by kernel_rfl) no_facts ?_
 simp (config := { maxSteps := 4000000 }) only [↓sxw,sxw,tf159,sxu,sxl,sxm,simprocAttr,detA_eqK]
noncomputable def detPK {α:Type} (f:α → Value) (g:Nat) (cap:List Value) (p:α → Bool):Nat → List Value → Option Value:=open Classical in fun g' xs=>if h:g' = g ∧ ∃ a,xs = f a :: cap then some (.bool (p h.2.choose)) else none
theorem detP_eqK {α:Type} {f:α → Value} (hf:∀ a b,f a = f b → a = b) (g:Nat) (cap:List Value) (p:α → Bool) (a:α):detPK f g cap p g (f a :: cap) = some (.bool (p a)):=by
 unfold detPK
 have h:g = g ∧ ∃ b,f a :: cap = f b :: cap:=⟨rfl,a,rfl⟩
 rw [dif_pos h]
 have:=h.2.choose_spec
 rw [List.cons.injEq] at this
 rw [← hf _ _ this.1]
def TellsK {α:Type} (w:World) (X:Nat → Prop) (f:α → Value) (g:Nat) (cap:List Value) (p:α → Bool):Prop:=
 CallT Tryz.prog g ∧ ∀ w',Keep X w w' → ∀ a,Calls Tryz.prog g (f a :: cap).toArray w' fun e w2=>e = .returned (.bool (p a)) ∧ Keep (fun _=>False) w' w2
theorem detPK_ok {α:Type} {f:α → Value} (hf:∀ a b,f a = f b → a = b) {w:World} {X:Nat → Prop} {g:Nat} {cap:List Value} {p:α → Bool} (h:TellsK w X f g cap p):DetFn Tryz.prog ⟨w,X⟩ (detPK f g cap p):=by
 intro g' xs v hv w' hk
 by_cases hc:g' = g ∧ ∃ a,xs = f a :: cap
 ·obtain ⟨rfl,a,rfl⟩:=hc
  rw [detP_eqK hf] at hv
  cases hv
  exact h.2 w' hk a
 ·unfold detPK at hv
  rw [dif_neg hc] at hv
  cases hv
def vIK (n:Int):Value:=I n
theorem vI_injK (a b:Int) (h:vIK a = vIK b):a = b:=by cases h; rfl
def spcK (p:Int × Int):List Value:=[I p.1,I p.2]
theorem spc_lenK (p:Int × Int):(spcK p).length = 2:=rfl
theorem indexI_fnK (w:World) (v:Value) (l:List Int) (g:Nat) (cap:List Value) (p:Int → Bool) (hs:Sl w v 1 (ints l)) (hb:l.length ≤ 1099511627776) (hp:TellsK w (fun _=>False) vIK g cap p):
  SX.Fn Tryz.prog 155 [v,.func (.func g) [].toArray cap.toArray] w (fun _=>False) fun r N=>∃ n:Int,r = I n ∧ decide (n ≥ 0) = l.any p:=by
 obtain ⟨a,n,c,rfl⟩:=hs.shape
 have hn:=hs.le i1_len (by omega)
 have hr:=hs.rd0
 have hT:=hp.1
 have hd:=fun m=>detP_eqK vI_injK g cap p m
 refine walk [] [] (detPK_ok vI_injK hp) Tryz.func155 rfl Tryz.ntmps155 res155 (by kernel_rfl) no_facts ?_
 simp (config := { maxSteps := 4000000 }) only [↓sxw,sxw,tf155,sxu,sxl,sxm,simprocAttr]
 refine loop_const [(4,5),(8,18)] (fun k:Nat=>[(8,I k)]) (fun k H1=>H1 = [] ∧ k ≤ n ∧ l.any p = (l.drop k).any p) (fun k=>n - k) 0 ?_ ⟨rfl,Nat.zero_le _,rfl⟩ ?_
 ·simp (config := { maxSteps := 4000000 }) only [↓sxw,sxw,tf155,sxu,sxl,sxm,simprocAttr]
  try simp
 ·rintro k H1 g1 ⟨rfl,hk,ht⟩
  by_cases hkn:k = n
  ·subst hkn
   have e7:((k:Int) < (k:Int)) = False:=eq_false (by omega)
   simp (config := { maxSteps := 4000000 }) only [↓sxw,sxw,tf155,sxu,sxl,sxm,simprocAttr,e7]
   refine ⟨-1,rfl,?_⟩
   rw [ht,List.drop_of_length_le (by omega)]
   try rfl
  ·have e7:((k:Int) < (n:Int)) = True:=eq_true (by omega)
   have e2:wrK (k + 1) = ((k + 1:Nat):Int):=(wrap_id (by omega)).trans (by omega)
   have hkl:k < l.length:=by omega
   have hdk:=hd l[k]
   rw [vIK] at hdk
   simp (config := { maxSteps := 4000000 }) only [↓sxw,sxw,tf155,sxu,sxl,sxm,simprocAttr,e7]
   refine amid (at_1 (hr _) i1_len (List.getElem?_eq_getElem hkl) rfl fun ad=>?_)
   rw [List.drop_eq_getElem_cons hkl,List.any_cons] at ht
   simp (config := { maxSteps := 4000000 }) only [↓sxw,sxw,tf155,sxu,sxl,sxm,simprocAttr,e2,hT,hdk]
   refine ⟨fun h1=>⟨k,rfl,?_⟩,fun h1=>⟨k + 1,_,rfl,HImp.refl _ _,⟨rfl,by omega,?_⟩,by omega⟩⟩
   ·rw [ht,h1,Bool.true_or,decide_eq_true_iff]
    omega
   ·rw [ht,h1,Bool.false_or]
theorem containsI_fnK (w:World) (v:Value) (l:List Int) (g:Nat) (cap:List Value) (p:Int → Bool) (hs:Sl w v 1 (ints l)) (hb:l.length ≤ 1099511627776) (hp:TellsK w (fun _=>False) vIK g cap p):
  SX.Fn Tryz.prog 114 [v,.func (.func g) [].toArray cap.toArray] w (fun _=>False) fun r N=>r = .bool (l.any p):=by
 obtain ⟨a,n,c,rfl⟩:=hs.shape
 refine walk [] [] (det0K_ok _ _) Tryz.func114 rfl Tryz.ntmps114 res114 (by kernel_rfl) no_facts ?_
 simp (config := { maxSteps := 4000000 }) only [↓sxw,sxw,tf114,sxu,sxl,sxm,simprocAttr,det0K]
 refine CallOb.pure (fun w' hp'=>indexI_fnK w' _ l g cap p (hs.hp (fun _ _=>id) hp') hb ⟨hp.1,fun w2 hk=>hp.2 w2 (hk.into hp'.ext fun _ h=>h.elim)⟩) ?_
 rintro r N ⟨m,rfl,hm⟩
 rw [← hm]
 simp (config := { maxSteps := 4000000 }) only [↓sxw,sxw,tf114,sxu,sxl,sxm,simprocAttr]
theorem tells_set (w:World):TellsK w (fun _=>False) vIK 159 [] (fun n=>!inBK n 0 255):=⟨Tryz.call159,fun w' _ a=>det_of_fnK (badSet_fn w' a)⟩
theorem index1_fn (w:World) (v:Value) (l:List Int) (x:Int) (hs:Sl w v 1 (ints l)) (hb:l.length ≤ 1099511627776):
  SX.Fn Tryz.prog 176 [v,I x] w (fun _=>False) fun r N=>∃ n:Int,r = I n ∧ (n ≥ 0 ↔ x ∈ l):=by
 obtain ⟨a,n,c,rfl⟩:=hs.shape
 have hn:=hs.le i1_len (by omega)
 have hr:=hs.rd0
 refine walk [] [] (det0K_ok _ _) Tryz.func176 rfl Tryz.ntmps176 res176 (by kernel_rfl) no_facts ?_
 simp (config := { maxSteps := 4000000 }) only [↓sxw,sxw,tf176,sxu,sxl,sxm,simprocAttr]
 refine loop_constH [] (HImp.nil _ _) [(4,5),(8,18)] (fun k:Nat=>[(8,I k)]) (fun k H1=>k ≤ n ∧ (x ∈ l ↔ x ∈ l.drop k)) (fun k=>n - k) 0 ?_ ⟨Nat.zero_le _,Iff.rfl⟩ ?_
 ·simp (config := { maxSteps := 4000000 }) only [↓sxw,sxw,tf176,sxu,sxl,sxm,simprocAttr]
  try simp
 rintro k H1 g1 ⟨hk,ht⟩
 by_cases hkn:k = n
 ·have e7:((k:Int) < (n:Int)) = False:=eq_false (by omega)
  refine ⟨?_⟩
  simp (config := { maxSteps := 4000000 }) only [↓sxw,sxw,tf176,sxu,sxl,sxm,simprocAttr,e7]
  refine ⟨-1,rfl,?_⟩
  rw [ht,List.drop_of_length_le (by omega)]
  try simp
 have e7:((k:Int) < (n:Int)) = True:=eq_true (by omega)
 have e2:wrK (k + 1) = ((k + 1:Nat):Int):=(wrap_id (by omega)).trans (by omega)
 have hkl:k < l.length:=by omega
 rw [List.drop_eq_getElem_cons hkl,List.mem_cons] at ht
 by_cases hx:x = l[k]
 ·have e3:(x = l[k]) = True:=eq_true hx
  refine ⟨?_⟩
  simp (config := { maxSteps := 4000000 }) only [↓sxw,sxw,tf176,sxu,sxl,sxm,simprocAttr,e7]
  refine amid (at_1 (hr _) i1_len (List.getElem?_eq_getElem hkl) rfl fun ad=>?_)
  simp (config := { maxSteps := 4000000 }) only [↓sxw,sxw,tf176,sxu,sxl,sxm,simprocAttr,e3]
  exact ⟨k,rfl,by rw [ht]; simp [hx]⟩
 ·have e3:(x = l[k]) = False:=eq_false hx
  refine ⟨?_⟩
  simp (config := { maxSteps := 4000000 }) only [↓sxw,sxw,tf176,sxu,sxl,sxm,simprocAttr,e7]
  refine amid (at_1 (hr _) i1_len (List.getElem?_eq_getElem hkl) rfl fun ad=>?_)
  simp (config := { maxSteps := 4000000 }) only [↓sxw,sxw,tf176,sxu,sxl,sxm,simprocAttr,e3,e2]
  exact ⟨k + 1,_,rfl,HImp.refl _ _,⟨by omega,by rw [ht]; simp [hx]⟩,by omega⟩
theorem contains1_fn (w:World) (v:Value) (l:List Int) (x:Int) (hs:Sl w v 1 (ints l)) (hb:l.length ≤ 1099511627776):
  SX.Fn Tryz.prog 160 [v,I x] w (fun _=>False) fun r N=>r = .bool (decide (x ∈ l)):=by
 obtain ⟨a,n,c,rfl⟩:=hs.shape
 refine walk [] [] (det0K_ok _ _) Tryz.func160 rfl Tryz.ntmps160 res160 (by kernel_rfl) no_facts ?_
 simp (config := { maxSteps := 4000000 }) only [↓sxw,sxw,tf160,sxu,sxl,sxm,simprocAttr,det0K]
 refine CallOb.pureH (fun w' hp'=>index1_fn w' _ l x (hs.hp (fun _ _=>id) hp') hb) ?_
 rintro r N ⟨m,rfl,hm⟩
 refine ⟨?_⟩
 simp (config := { maxSteps := 4000000 }) only [↓sxw,sxw,tf160,sxu,sxl,sxm,simprocAttr]
 by_cases h:x ∈ l
 ·simp [h,hm.2 h]
 ·simp [h,mt hm.1 h]
end Go.Proofs.YtljpknnhimkkjaaGreatDoor

namespace Go.Proofs.YtljpknnhimkkjaaGreatDoor
open Go.RowKit Go.SX
set_option maxRecDepth 10000
set_option maxHeartbeats 8000000
set_option linter.unusedSimpArgs false
set_option linter.unusedVariables false
abbrev Spn:=Int × Int
structure Hnd where
 skills:Int
 low:Int
 high:Int
 log:List Spn
 ans:Int
abbrev Hm:=Hnd × Option Addr × Nat
def lgv (p:Hm):Value:=.slice p.2.1 p.1.log.length p.2.2
def hdc (p:Hm):List Value:=[I p.1.skills,I p.1.low,I p.1.high,lgv p,I p.1.ans]
theorem hdc_len (p:Hm):(hdc p).length = 5:=rfl
structure Stn where
 hands:List Hnd
 window:Int
 duty:Int
def LogOk (w:World) (p:Hm):Prop:=Sl w (lgv p) 2 (cat spcK p.1.log)
def StOk (w:World) (v:Value) (s:Stn):Prop:=∃ hv ps,v = .agg #[hv,I s.window,I s.duty] ∧ ps.map Prod.fst = s.hands ∧ Sl w hv 5 (cat hdc ps) ∧ ∀ p ∈ ps,LogOk w p
def logB:Int → List Spn → Bool
 | _,[]=>true
 | last,s :: r=>decide (last < s.1) && decide (s.1 ≤ s.2) && decide (s.2 < 0) && logB s.2 r
def logdB (l:List Spn):Bool:=logB (-201) l && decide (l.length ≤ 10)
def handB (h:Hnd):Bool:=inBK h.skills 0 255 && decide (0 ≤ h.low) && decide (h.low ≤ h.high) && decide (h.high ≤ 60) && logdB h.log && inBK h.ans 0 2
def Stn.okB (s:Stn):Bool:=decide (s.hands.length ≤ 10) && inBK s.window 1 100 && inBK s.duty 0 s.window && s.hands.all handB
def Stn.small (s:Stn):Prop:=s.hands.length ≤ 100 ∧ ∀ h ∈ s.hands,h.log.length ≤ 100
theorem LogOk.hp {w0:World} {H:List HO} {p:Hm} (h:LogOk w0 p) {w:World} (hp:Hp ⟨w0,fun _=>False⟩ H w):LogOk w p:=Sl.hp (w0:=⟨w0,fun _=>False⟩) h (fun _ _=>id) hp
theorem StOk.hp {w0:World} {H:List HO} {v:Value} {s:Stn} (h:StOk w0 v s) {w:World} (hp:Hp ⟨w0,fun _=>False⟩ H w):StOk w v s:=by
 obtain ⟨hv,ps,h1,h2,h3,h4⟩:=h
 exact ⟨hv,ps,h1,h2,Sl.hp (w0:=⟨w0,fun _=>False⟩) h3 (fun _ _=>id) hp,fun p hm=>(h4 p hm).hp hp⟩
theorem logged_fn (w:World) (v:Value) (l:List Spn) (hs:Sl w v 2 (cat spcK l)) (hb:l.length ≤ 1000):SX.Fn Tryz.prog 123 [v] w (fun _=>False) fun r N=>r = .bool (logdB l):=by
 obtain ⟨a,n,c,rfl⟩:=hs.shape
 have hn:=hs.le spc_lenK (by omega)
 subst hn
 have hr:=hs.rd0
 unfold logdB
 refine walk [] [] (det0K_ok _ _) Tryz.func123 rfl Tryz.ntmps123 res123 (by kernel_rfl) no_facts ?_
 simp (config := { maxSteps := 4000000 }) only [↓sxw,sxw,tf123,sxu,sxl,sxm,simprocAttr]
 refine loop_constH [] (HImp.nil _ _) [(2,3),(5,5),(8,30)] (fun s:Nat × Int=>[(8,I s.1),(3,I s.2)]) (fun s H1=>s.1 ≤ l.length ∧ logB (-201) l = logB s.2 (l.drop s.1)) (fun s=>l.length - s.1) (0,-201) ?_ ⟨Nat.zero_le _,rfl⟩ ?_
 ·simp (config := { maxSteps := 4000000 }) only [↓sxw,sxw,tf123,sxu,sxl,sxm,simprocAttr]
  try simp
 rintro ⟨k,last⟩ H1 g1 ⟨hk,ht⟩
 simp only [] at hk ht
 by_cases hkn:k = l.length
 ·have e7:((k:Int) < (l.length:Int)) = False:=eq_false (by omega)
  rw [List.drop_of_length_le (by omega)] at ht
  by_cases h10:l.length ≤ 10
  ·have e8:((l.length:Int) ≤ 10) = True:=eq_true (by omega)
   refine ⟨?_⟩
   simp (config := { maxSteps := 4000000 }) only [↓sxw,sxw,tf123,sxu,sxl,sxm,simprocAttr,e7,e8]
   simp [ht,logB,h10]
  ·have e8:((l.length:Int) ≤ 10) = False:=eq_false (by omega)
   refine ⟨?_⟩
   simp (config := { maxSteps := 4000000 }) only [↓sxw,sxw,tf123,sxu,sxl,sxm,simprocAttr,e7,e8]
   simp [h10]
 have e7:((k:Int) < (l.length:Int)) = True:=eq_true (by omega)
 have e2:wrK (k + 1) = ((k + 1:Nat):Int):=(wrap_id (by omega)).trans (by omega)
 have hkl:k < l.length:=by omega
 have hu:=List.getElem?_eq_getElem hkl
 rw [List.drop_eq_getElem_cons hkl,logB] at ht
 generalize l[k] = u at hu ht
 by_cases h1:u.1 ≤ last
 ·have p1:(u.1 ≤ last) = True:=eq_true h1
  refine ⟨?_⟩
  simp (config := { maxSteps := 4000000 }) only [↓sxw,sxw,tf123,sxu,sxl,sxm,simprocAttr,e7]
  refine amid (at_n (hr _) spc_lenK (by omega) hu fun ad=>?_)
  unfold spcK
  simp (config := { maxSteps := 4000000 }) only [↓sxw,sxw,tf123,sxu,sxl,sxm,simprocAttr,p1]
  simp [ht,show ¬ last < u.1 by omega]
 have p1:(u.1 ≤ last) = False:=eq_false h1
 by_cases h2:u.1 > u.2
 ·have p2:(u.1 > u.2) = True:=eq_true h2
  refine ⟨?_⟩
  simp (config := { maxSteps := 4000000 }) only [↓sxw,sxw,tf123,sxu,sxl,sxm,simprocAttr,e7]
  refine amid (at_n (hr _) spc_lenK (by omega) hu fun ad=>?_)
  unfold spcK
  simp (config := { maxSteps := 4000000 }) only [↓sxw,sxw,tf123,sxu,sxl,sxm,simprocAttr,p1,p2]
  simp [ht,show ¬ u.1 ≤ u.2 by omega]
 have p2:(u.1 > u.2) = False:=eq_false h2
 by_cases h3:u.2 ≥ 0
 ·have p3:(u.2 ≥ 0) = True:=eq_true h3
  refine ⟨?_⟩
  simp (config := { maxSteps := 4000000 }) only [↓sxw,sxw,tf123,sxu,sxl,sxm,simprocAttr,e7]
  refine amid (at_n (hr _) spc_lenK (by omega) hu fun ad=>?_)
  unfold spcK
  simp (config := { maxSteps := 4000000 }) only [↓sxw,sxw,tf123,sxu,sxl,sxm,simprocAttr,p1,p2,p3]
  simp [ht,show ¬ u.2 < 0 by omega]
 have p3:(u.2 ≥ 0) = False:=eq_false h3
 refine ⟨?_⟩
 simp (config := { maxSteps := 4000000 }) only [↓sxw,sxw,tf123,sxu,sxl,sxm,simprocAttr,e7]
 refine amid (at_n (hr _) spc_lenK (by omega) hu fun ad=>?_)
 unfold spcK
 simp (config := { maxSteps := 4000000 }) only [↓sxw,sxw,tf123,sxu,sxl,sxm,simprocAttr,p1,p2,p3,e2]
 exact ⟨(k + 1,u.2),_,⟨rfl,rfl⟩,HImp.refl _ _,⟨by omega,by simp [ht,show last < u.1 by omega,show u.1 ≤ u.2 by omega,show u.2 < 0 by omega]⟩,by omega⟩
theorem isHand_fn (w:World) (p:Hm) (hs:LogOk w p) (hb:p.1.log.length ≤ 1000):SX.Fn Tryz.prog 152 [.agg (hdc p).toArray] w (fun _=>False) fun r N=>r = .bool (handB p.1):=by
 obtain ⟨h,a,c⟩:=p
 have hs':Sl w (.slice a h.log.length c) 2 (cat spcK h.log):=hs
 simp only at hb
 have hr:=hs'.rd0
 unfold hdc lgv
 simp only []
 refine walk [] [] (detAK_ok _ _) Tryz.func152 rfl Tryz.ntmps152 res152 (by kernel_rfl) no_facts ?_
 unfold handB
 cases h1:inBK h.skills 0 255 with
 | false=>
  simp (config := { maxSteps := 4000000 }) only [↓sxw,sxw,tf152,sxu,sxl,sxm,simprocAttr,detA_eqK,h1]
 | true=>
 by_cases h2:0 ≤ h.low ∧ h.low ≤ h.high
 case neg=>
  have q2:inBK h.low 0 h.high = false:=by
   cases hq:inBK h.low 0 h.high with
   | false=>rfl
   | true=>exact absurd ((inB_iffK _ _ _).1 hq) h2
  simp (config := { maxSteps := 4000000 }) only [↓sxw,sxw,tf152,sxu,sxl,sxm,simprocAttr,detA_eqK,h1,q2]
  have:¬ (0 ≤ h.low) ∨ ¬ (h.low ≤ h.high):=by omega
  rcases this with h | h <;> simp [h]
 have q2:inBK h.low 0 h.high = true:=(inB_iffK _ _ _).2 h2
 by_cases h3:h.high > 60
 ·have p3:(h.high > 60) = True:=eq_true h3
  simp (config := { maxSteps := 4000000 }) only [↓sxw,sxw,tf152,sxu,sxl,sxm,simprocAttr,detA_eqK,h1,q2,p3]
  simp [show ¬ h.high ≤ 60 by omega]
 have p3:(h.high > 60) = False:=eq_false h3
 by_cases h4:h.log.length ≤ 10
 case neg=>
  have p4:((h.log.length:Int) > 10) = True:=eq_true (by omega)
  simp (config := { maxSteps := 4000000 }) only [↓sxw,sxw,tf152,sxu,sxl,sxm,simprocAttr,detA_eqK,h1,q2,p3,p4]
  simp [logdB,h4]
 have p4:((h.log.length:Int) > 10) = False:=eq_false (by omega)
 cases h5:inBK h.ans 0 2 with
 | false=>
  simp (config := { maxSteps := 4000000 }) only [↓sxw,sxw,tf152,sxu,sxl,sxm,simprocAttr,detA_eqK,h1,q2,p3,p4,h5]
 | true=>
 have hall:(true && decide (0 ≤ h.low) && decide (h.low ≤ h.high) && decide (h.high ≤ 60) && logdB h.log && true) = logB (-201) h.log:=by
  simp [h2.1,h2.2,show h.high ≤ 60 by omega,logdB,h4]
 rw [hall]
 simp (config := { maxSteps := 4000000 }) only [↓sxw,sxw,tf152,sxu,sxl,sxm,simprocAttr,detA_eqK,h1,q2,p3,p4,h5]
 refine loop_constH [] (HImp.nil _ _) [(2,4),(37,74)] (fun s:Nat × Int=>[(4,I s.1),(3,I s.2)]) (fun s H1=>s.1 ≤ h.log.length ∧ (-201 ≤ s.2 ∧ s.2 ≤ 0) ∧ logB (-201) h.log = logB s.2 (h.log.drop s.1)) (fun s=>h.log.length - s.1) (0,-201) ?_ ⟨Nat.zero_le _,by simp,rfl⟩ ?_
 ·simp (config := { maxSteps := 4000000 }) only [↓sxw,sxw,tf152,sxu,sxl,sxm,simprocAttr]
  try simp
 rintro ⟨k,last⟩ H1 g1 ⟨hk,hlb,ht⟩
 simp only [] at hk ht hlb
 by_cases hkn:k = h.log.length
 ·have e7:((k:Int) < (h.log.length:Int)) = False:=eq_false (by omega)
  rw [List.drop_of_length_le (by omega)] at ht
  refine ⟨?_⟩
  simp (config := { maxSteps := 4000000 }) only [↓sxw,sxw,tf152,sxu,sxl,sxm,simprocAttr,e7]
  simp [ht,logB]
 have e7:((k:Int) < (h.log.length:Int)) = True:=eq_true (by omega)
 have e2:wrK (k + 1) = ((k + 1:Nat):Int):=(wrap_id (by omega)).trans (by omega)
 have e3:wrK (last + 1) = last + 1:=wrap_id (by omega)
 have hkl:k < h.log.length:=by omega
 have hu:=List.getElem?_eq_getElem hkl
 rw [List.drop_eq_getElem_cons hkl,logB] at ht
 generalize h.log[k] = u at hu ht
 by_cases k1:last + 1 ≤ u.1 ∧ u.1 ≤ u.2
 case neg=>
  have q1:inBK u.1 (last + 1) u.2 = false:=by
   cases hq:inBK u.1 (last + 1) u.2 with
   | false=>rfl
   | true=>exact absurd ((inB_iffK _ _ _).1 hq) k1
  refine ⟨?_⟩
  simp (config := { maxSteps := 4000000 }) only [↓sxw,sxw,tf152,sxu,sxl,sxm,simprocAttr,e7]
  refine amid (at_f (hr _) spc_lenK hu (o:=0) (x:=I u.1) rfl fun ad1=>?_)
  simp (config := { maxSteps := 4000000 }) only [↓sxw,sxw,tf152,sxu,sxl,sxm,simprocAttr,e7,e3]
  refine amid (at_f (hr _) spc_lenK hu (o:=1) (x:=I u.2) rfl fun ad2=>?_)
  simp (config := { maxSteps := 4000000 }) only [↓sxw,sxw,tf152,sxu,sxl,sxm,simprocAttr,detA_eqK,q1]
  have:¬ (last < u.1) ∨ ¬ (u.1 ≤ u.2):=by omega
  rcases this with q | q <;> simp [ht,q]
 have q1:inBK u.1 (last + 1) u.2 = true:=(inB_iffK _ _ _).2 k1
 by_cases k2:u.2 ≥ 0
 ·have q2:(u.2 ≥ 0) = True:=eq_true k2
  refine ⟨?_⟩
  simp (config := { maxSteps := 4000000 }) only [↓sxw,sxw,tf152,sxu,sxl,sxm,simprocAttr,e7]
  refine amid (at_f (hr _) spc_lenK hu (o:=0) (x:=I u.1) rfl fun ad1=>?_)
  simp (config := { maxSteps := 4000000 }) only [↓sxw,sxw,tf152,sxu,sxl,sxm,simprocAttr,e7,e3]
  refine amid (at_f (hr _) spc_lenK hu (o:=1) (x:=I u.2) rfl fun ad2=>?_)
  simp (config := { maxSteps := 4000000 }) only [↓sxw,sxw,tf152,sxu,sxl,sxm,simprocAttr,detA_eqK,q1,e7]
  refine amid (at_f (hr _) spc_lenK hu (o:=1) (x:=I u.2) rfl fun ad2=>?_)
  simp (config := { maxSteps := 4000000 }) only [↓sxw,sxw,tf152,sxu,sxl,sxm,simprocAttr,q2]
  simp [ht,show ¬ u.2 < 0 by omega]
 have q2:(u.2 ≥ 0) = False:=eq_false k2
 refine ⟨?_⟩
 simp (config := { maxSteps := 4000000 }) only [↓sxw,sxw,tf152,sxu,sxl,sxm,simprocAttr,e7]
 refine amid (at_f (hr _) spc_lenK hu (o:=0) (x:=I u.1) rfl fun ad1=>?_)
 simp (config := { maxSteps := 4000000 }) only [↓sxw,sxw,tf152,sxu,sxl,sxm,simprocAttr,e7,e3]
 refine amid (at_f (hr _) spc_lenK hu (o:=1) (x:=I u.2) rfl fun ad2=>?_)
 simp (config := { maxSteps := 4000000 }) only [↓sxw,sxw,tf152,sxu,sxl,sxm,simprocAttr,detA_eqK,q1,e7]
 refine amid (at_f (hr _) spc_lenK hu (o:=1) (x:=I u.2) rfl fun ad2=>?_)
 simp (config := { maxSteps := 4000000 }) only [↓sxw,sxw,tf152,sxu,sxl,sxm,simprocAttr,q2,e7]
 refine amid (at_f (hr _) spc_lenK hu (o:=1) (x:=I u.2) rfl fun ad2=>?_)
 simp (config := { maxSteps := 4000000 }) only [↓sxw,sxw,tf152,sxu,sxl,sxm,simprocAttr,e2]
 exact ⟨(k + 1,u.2),_,⟨rfl,rfl⟩,HImp.refl _ _,⟨by omega,by simp only []; omega,by simp [ht,show last < u.1 by omega,show u.1 ≤ u.2 by omega,show u.2 < 0 by omega]⟩,by omega⟩
end Go.Proofs.YtljpknnhimkkjaaGreatDoor

namespace Go.Proofs.YtljpknnhimkkjaaGreatDoor
open Go.RowKit Go.SX
set_option maxRecDepth 10000
set_option maxHeartbeats 8000000
set_option linter.unusedSimpArgs false
set_option linter.unusedVariables false
theorem all_fst {ps:List Hm} {hs:List Hnd} (h:ps.map Prod.fst = hs):hs.all handB = ps.all fun p=>handB p.1:=by
 rw [← h,List.all_map]
 try rfl
theorem mem_fst {ps:List Hm} {hs:List Hnd} (h:ps.map Prod.fst = hs) {p:Hm} (hp:p ∈ ps):p.1 ∈ hs:=by
 rw [← h]
 exact List.mem_map.2 ⟨p,hp,rfl⟩
theorem check_fnK (w:World) (v:Value) (s:Stn) (hs:StOk w v s) (hsm:s.small):SX.Fn Tryz.prog 66 [v] w (fun _=>False) fun r N=>r = I (if s.okB then 0 else 70):=by
 obtain ⟨hv,ps,rfl,hps,hsl,hlg⟩:=hs
 obtain ⟨a,n,c,rfl⟩:=hsl.shape
 have hn:=hsl.le hdc_len (by omega)
 have hlen:s.hands.length = ps.length:=by rw [← hps,List.length_map]
 subst hn
 have hr:=hsl.rd0
 have hsm1:=hsm.1
 have hsm2:=hsm.2
 have dn:(∀ xs,detAK 123 xs = none):=fun _=>rfl
 unfold Stn.okB
 rw [all_fst hps,hlen]
 refine walk [] [] (detAK_ok _ _) Tryz.func66 rfl Tryz.ntmps66 res66 (by kernel_rfl) no_facts ?_
 by_cases h1:ps.length ≤ 10
 case neg=>
  have p1:((ps.length:Int) > 10) = True:=eq_true (by omega)
  simp (config := { maxSteps := 4000000 }) only [↓sxw,sxw,tf66,sxu,sxl,sxm,simprocAttr,p1]
  simp [h1]
 have p1:((ps.length:Int) > 10) = False:=eq_false (by omega)
 have h1d:decide (ps.length ≤ 10) = true:=decide_eq_true h1
 cases h2:inBK s.window 1 100 with
 | false=>
  simp (config := { maxSteps := 4000000 }) only [↓sxw,sxw,tf66,sxu,sxl,sxm,simprocAttr,detA_eqK,p1,h2]
 | true=>
 cases h3:inBK s.duty 0 s.window with
 | false=>
  simp (config := { maxSteps := 4000000 }) only [↓sxw,sxw,tf66,sxu,sxl,sxm,simprocAttr,detA_eqK,p1,h2,h3]
 | true=>
 rw [h1d]
 simp (config := { maxSteps := 4000000 }) only [↓sxw,sxw,tf66,sxu,sxl,sxm,simprocAttr,detA_eqK,p1,h2,h3]
 refine loop_constH [] (HImp.nil _ _) [(2,2),(4,4),(26,67)] (fun k:Nat=>[(26,I k)]) (fun k H1=>k ≤ ps.length ∧ (ps.all fun p=>handB p.1) = ((ps.drop k).all fun p=>handB p.1)) (fun k=>ps.length - k) 0 ?_ ⟨Nat.zero_le _,rfl⟩ ?_
 ·simp (config := { maxSteps := 4000000 }) only [↓sxw,sxw,tf66,sxu,sxl,sxm,simprocAttr]
  try simp
 rintro k H1 g1 ⟨hk,ht⟩
 by_cases hkn:k = ps.length
 ·have e7:((k:Int) < (ps.length:Int)) = False:=eq_false (by omega)
  rw [List.drop_of_length_le (by omega)] at ht
  refine ⟨?_⟩
  simp (config := { maxSteps := 4000000 }) only [↓sxw,sxw,tf66,sxu,sxl,sxm,simprocAttr,e7]
  simp [ht]
 have e7:((k:Int) < (ps.length:Int)) = True:=eq_true (by omega)
 have e2:wrK (k + 1) = ((k + 1:Nat):Int):=(wrap_id (by omega)).trans (by omega)
 have hkl:k < ps.length:=by omega
 have hu:=List.getElem?_eq_getElem hkl
 have hm:=List.getElem_mem hkl
 rw [List.drop_eq_getElem_cons hkl,List.all_cons] at ht
 generalize ps[k] = p at hu ht hm
 have hlog:=hlg p hm
 have hll:=hsm2 _ (mem_fst hps hm)
 obtain ⟨h,ad,cp⟩:=p
 have hlog':Sl w (.slice ad h.log.length cp) 2 (cat spcK h.log):=hlog
 simp only [] at ht hll
 have bad:handB h = false → (ps.all fun p=>handB p.1) = false:=fun hb=>by rw [ht,hb]; rfl
 cases k1:inBK h.skills 0 255 with
 | false=>
  have hbad:=bad (by unfold handB; rw [k1]; simp)
  refine ⟨?_⟩
  simp (config := { maxSteps := 4000000 }) only [↓sxw,sxw,tf66,sxu,sxl,sxm,simprocAttr,e7]
  refine amid (at_n (hr _) hdc_len (by omega) hu fun ad=>?_)
  unfold hdc lgv
  simp (config := { maxSteps := 4000000 }) only [↓sxw,sxw,tf66,sxu,sxl,sxm,simprocAttr,detA_eqK,k1]
  rw [hbad]
  try simp
 | true=>
 by_cases k2:h.low < 0
 ·have q2:(h.low < 0) = True:=eq_true k2
  have hbad:=bad (by unfold handB; simp [show ¬ 0 ≤ h.low by omega])
  refine ⟨?_⟩
  simp (config := { maxSteps := 4000000 }) only [↓sxw,sxw,tf66,sxu,sxl,sxm,simprocAttr,e7]
  refine amid (at_n (hr _) hdc_len (by omega) hu fun ad=>?_)
  unfold hdc lgv
  simp (config := { maxSteps := 4000000 }) only [↓sxw,sxw,tf66,sxu,sxl,sxm,simprocAttr,detA_eqK,k1,q2]
  rw [hbad]
  try simp
 have q2:(h.low < 0) = False:=eq_false k2
 by_cases k3:h.low > h.high
 ·have q3:(h.low > h.high) = True:=eq_true k3
  have hbad:=bad (by unfold handB; simp [show ¬ h.low ≤ h.high by omega])
  refine ⟨?_⟩
  simp (config := { maxSteps := 4000000 }) only [↓sxw,sxw,tf66,sxu,sxl,sxm,simprocAttr,e7]
  refine amid (at_n (hr _) hdc_len (by omega) hu fun ad=>?_)
  unfold hdc lgv
  simp (config := { maxSteps := 4000000 }) only [↓sxw,sxw,tf66,sxu,sxl,sxm,simprocAttr,detA_eqK,k1,q2,q3]
  rw [hbad]
  try simp
 have q3:(h.low > h.high) = False:=eq_false k3
 by_cases k4:h.high > 60
 ·have q4:(h.high > 60) = True:=eq_true k4
  have hbad:=bad (by unfold handB; simp [show ¬ h.high ≤ 60 by omega])
  refine ⟨?_⟩
  simp (config := { maxSteps := 4000000 }) only [↓sxw,sxw,tf66,sxu,sxl,sxm,simprocAttr,e7]
  refine amid (at_n (hr _) hdc_len (by omega) hu fun ad=>?_)
  unfold hdc lgv
  simp (config := { maxSteps := 4000000 }) only [↓sxw,sxw,tf66,sxu,sxl,sxm,simprocAttr,detA_eqK,k1,q2,q3,q4]
  rw [hbad]
  try simp
 have q4:(h.high > 60) = False:=eq_false k4
 have hlgc:=fun (H:List HO) w' (hp:Hp ⟨w,fun _=>False⟩ H w')=>logged_fn w' _ h.log (Sl.hp (w0:=⟨w,fun _=>False⟩) hlog' (fun _ _=>id) hp) (by omega)
 cases k5:logdB h.log with
 | false=>
  have hbad:=bad (by unfold handB; rw [k5]; simp)
  refine ⟨?_⟩
  simp (config := { maxSteps := 4000000 }) only [↓sxw,sxw,tf66,sxu,sxl,sxm,simprocAttr,e7]
  refine amid (at_n (hr _) hdc_len (by omega) hu fun ad=>?_)
  unfold hdc lgv
  simp (config := { maxSteps := 4000000 }) only [↓sxw,sxw,tf66,sxu,sxl,sxm,simprocAttr,detA_eqK,k1,q2,q3,q4,dn]
  refine CallOb.pureH (fun w' hp=>hlgc _ w' hp) ?_
  rintro r N rfl
  rw [k5]
  refine ⟨?_⟩
  simp (config := { maxSteps := 4000000 }) only [↓sxw,sxw,tf66,sxu,sxl,sxm,simprocAttr]
  rw [hbad]
  try simp
 | true=>
 cases k6:inBK h.ans 0 2 with
 | false=>
  have hbad:=bad (by unfold handB; rw [k6]; simp)
  refine ⟨?_⟩
  simp (config := { maxSteps := 4000000 }) only [↓sxw,sxw,tf66,sxu,sxl,sxm,simprocAttr,e7]
  refine amid (at_n (hr _) hdc_len (by omega) hu fun ad=>?_)
  unfold hdc lgv
  simp (config := { maxSteps := 4000000 }) only [↓sxw,sxw,tf66,sxu,sxl,sxm,simprocAttr,detA_eqK,k1,q2,q3,q4,dn]
  refine CallOb.pureH (fun w' hp=>hlgc _ w' hp) ?_
  rintro r N rfl
  rw [k5]
  refine ⟨?_⟩
  simp (config := { maxSteps := 4000000 }) only [↓sxw,sxw,tf66,sxu,sxl,sxm,simprocAttr,detA_eqK,k6]
  rw [hbad]
  try simp
 | true=>
 have hgood:handB h = true:=by
  unfold handB
  rw [k1,k5,k6]
  simp [show 0 ≤ h.low by omega,show h.low ≤ h.high by omega,show h.high ≤ 60 by omega]
 refine ⟨?_⟩
 simp (config := { maxSteps := 4000000 }) only [↓sxw,sxw,tf66,sxu,sxl,sxm,simprocAttr,e7]
 refine amid (at_n (hr _) hdc_len (by omega) hu fun ad=>?_)
 unfold hdc lgv
 simp (config := { maxSteps := 4000000 }) only [↓sxw,sxw,tf66,sxu,sxl,sxm,simprocAttr,detA_eqK,k1,q2,q3,q4,dn]
 refine CallOb.pureH (fun w' hp=>hlgc _ w' hp) ?_
 rintro r N rfl
 rw [k5]
 refine ⟨?_⟩
 simp (config := { maxSteps := 4000000 }) only [↓sxw,sxw,tf66,sxu,sxl,sxm,simprocAttr,detA_eqK,k6,e2]
 exact ⟨k + 1,_,rfl,HImp.refl _ _,⟨by omega,by rw [ht,hgood]; rfl⟩,by omega⟩
theorem rcheck_fnK (w:World) (v:Value) (s:Stn) (hs:StOk w v s) (hsm:s.small):SX.Fn Tryz.prog 106 [v] w (fun _=>False) fun r N=>r = I (if s.okB then 0 else 70):=by
 obtain ⟨hv,ps,rfl,hps,hsl,hlg⟩:=hs
 obtain ⟨a,n,c,rfl⟩:=hsl.shape
 have hn:=hsl.le hdc_len (by omega)
 have hlen:s.hands.length = ps.length:=by rw [← hps,List.length_map]
 subst hn
 have hr:=hsl.rd0
 have hsm1:=hsm.1
 have hsm2:=hsm.2
 have dn:(∀ xs,detAK 152 xs = none):=fun _=>rfl
 unfold Stn.okB
 rw [all_fst hps,hlen]
 refine walk [] [] (detAK_ok _ _) Tryz.func106 rfl Tryz.ntmps106 res106 (by kernel_rfl) no_facts ?_
 by_cases h1:ps.length ≤ 10
 case neg=>
  have p1:((ps.length:Int) > 10) = True:=eq_true (by omega)
  simp (config := { maxSteps := 4000000 }) only [↓sxw,sxw,tf106,sxu,sxl,sxm,simprocAttr,p1]
  simp [h1]
 have p1:((ps.length:Int) > 10) = False:=eq_false (by omega)
 have h1d:decide (ps.length ≤ 10) = true:=decide_eq_true h1
 cases h2:inBK s.window 1 100 with
 | false=>
  simp (config := { maxSteps := 4000000 }) only [↓sxw,sxw,tf106,sxu,sxl,sxm,simprocAttr,detA_eqK,p1,h2]
 | true=>
 cases h3:inBK s.duty 0 s.window with
 | false=>
  simp (config := { maxSteps := 4000000 }) only [↓sxw,sxw,tf106,sxu,sxl,sxm,simprocAttr,detA_eqK,p1,h2,h3]
 | true=>
 rw [h1d]
 simp (config := { maxSteps := 4000000 }) only [↓sxw,sxw,tf106,sxu,sxl,sxm,simprocAttr,detA_eqK,p1,h2,h3]
 refine loop_constH [] (HImp.nil _ _) [(2,3),(22,35)] (fun k:Nat=>[(3,I k)]) (fun k H1=>k ≤ ps.length ∧ (ps.all fun p=>handB p.1) = ((ps.drop k).all fun p=>handB p.1)) (fun k=>ps.length - k) 0 ?_ ⟨Nat.zero_le _,rfl⟩ ?_
 ·simp (config := { maxSteps := 4000000 }) only [↓sxw,sxw,tf106,sxu,sxl,sxm,simprocAttr]
  try simp
 rintro k H1 g1 ⟨hk,ht⟩
 by_cases hkn:k = ps.length
 ·have e7:((k:Int) < (ps.length:Int)) = False:=eq_false (by omega)
  rw [List.drop_of_length_le (by omega)] at ht
  refine ⟨?_⟩
  simp (config := { maxSteps := 4000000 }) only [↓sxw,sxw,tf106,sxu,sxl,sxm,simprocAttr,e7]
  simp [ht]
 have e7:((k:Int) < (ps.length:Int)) = True:=eq_true (by omega)
 have e2:wrK (k + 1) = ((k + 1:Nat):Int):=(wrap_id (by omega)).trans (by omega)
 have hkl:k < ps.length:=by omega
 have hu:=List.getElem?_eq_getElem hkl
 have hm:=List.getElem_mem hkl
 rw [List.drop_eq_getElem_cons hkl,List.all_cons] at ht
 generalize ps[k] = p at hu ht hm
 have hlog:=hlg p hm
 have hll:=hsm2 _ (mem_fst hps hm)
 have hih:=fun (H:List HO) w' (hp:Hp ⟨w,fun _=>False⟩ H w')=>isHand_fn w' p (hlog.hp hp) (by omega)
 have hq:∃ q,handB p.1 = q:=⟨_,rfl⟩
 obtain ⟨q,hq⟩:=hq
 rw [hq] at hih ht
 refine ⟨?_⟩
 simp (config := { maxSteps := 4000000 }) only [↓sxw,sxw,tf106,sxu,sxl,sxm,simprocAttr,e7]
 refine amid (at_n (hr _) hdc_len (by omega) hu fun ad=>?_)
 simp (config := { maxSteps := 4000000 }) only [↓sxw,sxw,tf106,sxu,sxl,sxm,simprocAttr,dn]
 refine CallOb.pureH (fun w' hp=>hih _ w' hp) ?_
 rintro r N rfl
 cases q with
 | false=>
  refine ⟨?_⟩
  simp (config := { maxSteps := 4000000 }) only [↓sxw,sxw,tf106,sxu,sxl,sxm,simprocAttr]
  simp [ht]
 | true=>
  refine ⟨?_⟩
  simp (config := { maxSteps := 4000000 }) only [↓sxw,sxw,tf106,sxu,sxl,sxm,simprocAttr,e2]
  exact ⟨k + 1,_,rfl,HImp.nil _ _,⟨by omega,by rw [ht]; rfl⟩,by omega⟩
end Go.Proofs.YtljpknnhimkkjaaGreatDoor

namespace Go.Proofs.YtljpknnhimkkjaaGreatDoor
open Go.RowKit Go.SX
set_option maxRecDepth 10000
set_option maxHeartbeats 8000000
set_option linter.unusedSimpArgs false
set_option linter.unusedVariables false
def bl (p:Int → Bool):List Bool:=(List.range 900).map fun (i:Nat)=>p ((i:Int) - 300)
theorem bl_len (p:Int → Bool):(bl p).length = 900:=by unfold bl; rw [List.length_map,List.length_range]
theorem bl_get (p:Int → Bool) {i:Nat} (hi:i < 900):(bl p)[i]? = some (p ((i:Int) - 300)):=by
 unfold bl
 rw [List.getElem?_map,List.getElem?_range hi]
 try rfl
theorem bl_set (p:Int → Bool) {i:Nat} (hi:i < 900):(bl p).set i true = bl (fun u=>p u || decide (u = (i:Int) - 300)):=by
 refine List.ext_getElem? fun j=>?_
 by_cases hj:j < 900
 ·rw [bl_get _ hj,List.getElem?_set]
  by_cases e:i = j
  ·subst e
   rw [if_pos rfl,if_pos (by rw [bl_len]; exact hi)]
   try simp
  ·rw [if_neg e,bl_get _ hj]
   simp only [Option.some.injEq]
   rw [decide_eq_false (by omega),Bool.or_false]
 ·rw [List.getElem?_eq_none (by rw [List.length_set,bl_len]; omega),List.getElem?_eq_none (by rw [bl_len]; omega)]
theorem bools_map (l:List Bool):bools l = l.map Value.bool:=by
 induction l with
 | nil=>rfl
 | cons b l ih=>
  show cat b1 (b :: l) = _
  rw [cat_cons,List.map_cons]
  show [Value.bool b] ++ bools l = _
  rw [ih]
  try rfl
theorem bbl_len (p:Int → Bool):(bools (bl p)).length = 900:=by rw [bools_map,List.length_map,bl_len]
theorem bbl_get (p:Int → Bool) {i:Nat} (hi:i < 900):(bools (bl p))[i]? = some (.bool (p ((i:Int) - 300))):=by
 rw [bools_map,List.getElem?_map,bl_get _ hi]
 try rfl
theorem bbl_set (p:Int → Bool) {i:Nat} (hi:i < 900):(bools (bl p)).set i (.bool true) = bools (bl fun u=>p u || decide (u = (i:Int) - 300)):=by
 rw [← bl_set p hi,bools_map,bools_map,List.map_set]
def dcs (p q:Int → Bool):List Value:=bools (bl p) ++ bools (bl q)
theorem dcs_len (p q:Int → Bool):(dcs p q).length = 1800:=by
 unfold dcs
 rw [List.length_append,bbl_len,bbl_len]
theorem dcs_get1 (p q:Int → Bool) {i:Nat} (hi:i < 900):(dcs p q)[i]? = some (.bool (p ((i:Int) - 300))):=by
 unfold dcs
 rw [List.getElem?_append_left (by rw [bbl_len]; exact hi),bbl_get _ hi]
theorem dcs_get2 (p q:Int → Bool) {i:Nat} (hi:i < 900):(dcs p q)[900 + i]? = some (.bool (q ((i:Int) - 300))):=by
 unfold dcs
 rw [List.getElem?_append_right (by rw [bbl_len]; omega),bbl_len,Nat.add_sub_cancel_left,bbl_get _ hi]
theorem dcs_set1 (p q:Int → Bool) {i:Nat} (hi:i < 900):(dcs p q).set i (.bool true) = dcs (fun u=>p u || decide (u = (i:Int) - 300)) q:=by
 unfold dcs
 rw [List.set_append_left _ _ (by rw [bbl_len]; exact hi),bbl_set p hi]
theorem dcs_set2 (p q:Int → Bool) {i:Nat} (hi:i < 900):(dcs p q).set (900 + i) (.bool true) = dcs p (fun u=>q u || decide (u = (i:Int) - 300)):=by
 unfold dcs
 rw [List.set_append_right _ _ (by rw [bbl_len]; omega),bbl_len,Nat.add_sub_cancel_left,bbl_set q hi]
theorem dcs_zero:rep 1800 (.bool false) = dcs (fun _=>false) (fun _=>false):=by
 unfold dcs
 rw [bools_map]
 have:bl (fun _=>false) = List.replicate 900 false:=by
  refine List.ext_getElem? fun j=>?_
  by_cases hj:j < 900
  ·rw [bl_get _ hj,List.getElem?_replicate,if_pos hj]
  ·rw [List.getElem?_eq_none (by rw [bl_len]; omega),List.getElem?_replicate,if_neg hj]
 rw [this,List.map_replicate,rep,List.replicate_append_replicate]
def inS (s:Spn) (u:Int):Bool:=decide (s.1 ≤ u) && decide (u ≤ s.2)
def srv (l:List Spn) (u:Int):Bool:=l.any fun s=>inS s u
theorem logB_mem:∀ {l:List Spn} {last:Int},logB last l = true → ∀ s ∈ l,last < s.1 ∧ s.1 ≤ s.2 ∧ s.2 < 0
 | [],_,_,s,hs=>by cases hs
 | x :: l,last,h,s,hs=>by
  simp only [logB,Bool.and_eq_true,decide_eq_true_eq] at h
  rcases List.mem_cons.1 hs with rfl | hs
  ·omega
  ·have:=logB_mem h.2 s hs
   omega
theorem wr_cell1 {H A B:List HO} {b i:Nat} {a:Addr} {T:TypeId} {cs cs':List Value} {x:Value} {K:List HO → Prop} (ha:a = ⟨b,i,none⟩) (hH:H = A ++ .cells b T cs :: B) (hi:i < cs.length) (hs:cs.set i x = cs')
  (hK:K (A ++ .cells b T cs' :: B)):hold (WrOb H a [x] K) ⟨0⟩:=by
 subst ha hs
 refine wr_cell hH (by simp; omega) ?_
 simp only [List.length_cons,List.length_nil,Nat.zero_add]
 rw [set_parts hi]
 exact hK
theorem begin_fn (w:World) (p:Hm) (hs:LogOk w p) (hok:logdB p.1.log = true):SX.Fn Tryz.prog 158 [.agg (hdc p).toArray] w (fun _=>False) fun r N=>∃ b,r = .pointer (some ⟨b,0,none⟩) ∧ HO.cells b 249 (dcs (srv p.1.log) (fun _=>false)) ∈ N:=by
 obtain ⟨h,a,c⟩:=p
 have hs':Sl w (.slice a h.log.length c) 2 (cat spcK h.log):=hs
 simp only at hok ⊢
 unfold logdB at hok
 rw [Bool.and_eq_true,decide_eq_true_eq] at hok
 have hmem:=logB_mem hok.1
 have hr:=hs'.rd0
 have h10:=hok.2
 unfold hdc lgv
 simp only []
 refine walk [8] [] (det0K_ok _ _) Tryz.func158 rfl Tryz.ntmps158 res158 (by kernel_rfl) no_facts ?_
 simp (config := { maxSteps := 4000000 }) only [↓sxw,sxw,tf158,sxu,sxl,sxm,simprocAttr]
 intro b
 rw [dcs_zero]
 refine loop_constH [.cells b 249 (dcs (fun _=>false) (fun _=>false))] (HImp.refl _ _) [(5,6),(12,30)] (fun k:Nat=>[(12,I k)]) (fun k H1=>k ≤ h.log.length ∧ H1 = [.cells b 249 (dcs (srv (h.log.take k)) (fun _=>false))]) (fun k=>h.log.length - k) 0 ?_ ⟨Nat.zero_le _,rfl⟩ ?_
 ·simp (config := { maxSteps := 4000000 }) only [↓sxw,sxw,tf158,sxu,sxl,sxm,simprocAttr]
  try simp
 rintro k H1 g1 ⟨hk,rfl⟩
 by_cases hkn:k = h.log.length
 ·have e7:((k:Int) < (h.log.length:Int)) = False:=eq_false (by omega)
  refine ⟨?_⟩
  simp (config := { maxSteps := 4000000 }) only [↓sxw,sxw,tf158,sxu,sxl,sxm,simprocAttr,e7]
  rw [List.take_of_length_le (by omega)]
  exact ⟨b,rfl,List.mem_cons_self⟩
 have e7:((k:Int) < (h.log.length:Int)) = True:=eq_true (by omega)
 have e2:wrK (k + 1) = ((k + 1:Nat):Int):=(wrap_id (by omega)).trans (by omega)
 have hkl:k < h.log.length:=by omega
 have hu:=List.getElem?_eq_getElem hkl
 have hm:=hmem _ (List.getElem_mem hkl)
 have htk:h.log.take (k + 1) = h.log.take k ++ [h.log[k]]:=by rw [List.take_add_one,hu]; rfl
 generalize h.log[k] = s at hu hm htk
 refine ⟨?_⟩
 simp (config := { maxSteps := 4000000 }) only [↓sxw,sxw,tf158,sxu,sxl,sxm,simprocAttr,e7]
 refine amid (at_n (hr _) spc_lenK (by omega) hu fun ad=>?_)
 unfold spcK
 simp (config := { maxSteps := 4000000 }) only [↓sxw,sxw,tf158,sxu,sxl,sxm,simprocAttr]
 refine loop_constH [.cells b 249 (dcs (srv (h.log.take k)) (fun _=>false))] (HImp.refl _ _) [(6,6),(18,29)] (fun i:Nat=>[(6,I ((i:Int) - 300))]) (fun i H1=>((i:Int) - 300 ≤ s.2 + 1 ∧ s.1 ≤ (i:Int) - 300) ∧ H1 = [.cells b 249 (dcs (fun u=>srv (h.log.take k) u || decide (s.1 ≤ u) && decide (u < (i:Int) - 300)) (fun _=>false))]) (fun i=>(s.2 + 301 - i).toNat) (s.1 + 300).toNat ?_ ⟨by omega,?_⟩ ?_
 ·simp (config := { maxSteps := 4000000 }) only [↓sxw,sxw,tf158,sxu,sxl,sxm,simprocAttr]
  try simp
  omega
 ·congr 3
  funext u
  have:(decide (s.1 ≤ u) && decide (u < ((s.1 + 300).toNat:Int) - 300)) = false:=by
   rw [Bool.and_eq_false_iff,decide_eq_false_iff_not,decide_eq_false_iff_not]
   omega
  rw [this,Bool.or_false]
 rintro i H1 g2 ⟨⟨hi1,hi2⟩,rfl⟩
 by_cases hend:(i:Int) - 300 ≤ s.2
 case neg=>
  have q7:((i:Int) - 300 ≤ s.2) = False:=eq_false hend
  refine ⟨?_⟩
  simp (config := { maxSteps := 4000000 }) only [↓sxw,sxw,tf158,sxu,sxl,sxm,simprocAttr,q7,e2]
  refine ⟨k + 1,_,rfl,HImp.refl _ _,⟨by omega,?_⟩,by omega⟩
  congr 3
  funext u
  rw [htk,srv,srv,List.any_append,List.any_cons,List.any_nil,Bool.or_false]
  congr 1
  unfold inS
  congr 1
  rw [decide_eq_decide]
  omega
 have q7:((i:Int) - 300 ≤ s.2) = True:=eq_true hend
 have q8:wrK ((i:Int) - 300 + 300) = (i:Int):=(wrap_id (by omega)).trans (by omega)
 have q9:wrK ((i:Int) - 300 + 1) = ((i + 1:Nat):Int) - 300:=(wrap_id (by omega)).trans (by omega)
 refine ⟨?_⟩
 simp (config := { maxSteps := 4000000 }) only [↓sxw,sxw,tf158,sxu,sxl,sxm,simprocAttr,q7,q8]
 refine ⟨by omega,by omega,?_⟩
 refine wr_cell1 (A:=[]) (i:=i) (by simp [add_block]) rfl (by rw [dcs_len]; omega) (dcs_set1 _ _ (by omega)) ?_
 simp (config := { maxSteps := 4000000 }) only [↓sxw,sxw,tf158,sxu,sxl,sxm,simprocAttr,q9]
 refine ⟨i + 1,_,rfl,HImp.refl _ _,⟨by omega,?_⟩,by omega⟩
 congr 3
 funext u
 rw [Bool.or_assoc]
 congr 1
 rw [Bool.eq_iff_iff]
 simp only [Bool.or_eq_true,Bool.and_eq_true,decide_eq_true_eq]
 omega
theorem add_fn (w:World) (p q:Int → Bool) (lo hi:Int) (h1:-300 ≤ lo) (h2:lo ≤ hi + 1) (h3:hi < 600):SX.Fn Tryz.prog 186 [.agg (dcs p q).toArray,.agg #[I lo,I hi]] w (fun _=>False) fun r N=>∃ b,r = .pointer (some ⟨b,0,none⟩) ∧ HO.cells b 249 (dcs (fun u=>p u || inS (lo,hi) u) (fun u=>q u || inS (lo,hi) u)) ∈ N:=by
 have hvc:vcells (.agg (dcs p q).toArray) = dcs p q:=rfl
 refine walk [2] [] (det0K_ok _ _) Tryz.func186 rfl Tryz.ntmps186 res186 (by kernel_rfl) no_facts ?_
 simp (config := { maxSteps := 4000000 }) only [↓sxw,sxw,tf186,sxu,sxl,sxm,simprocAttr,hvc]
 intro b
 refine loop_constH [.cells b 249 (dcs p q)] (HImp.refl _ _) [(5,5),(8,21)] (fun i:Nat=>[(5,I ((i:Int) - 300))]) (fun i H1=>((i:Int) - 300 ≤ hi + 1 ∧ lo ≤ (i:Int) - 300) ∧ H1 = [.cells b 249 (dcs (fun u=>p u || decide (lo ≤ u) && decide (u < (i:Int) - 300)) (fun u=>q u || decide (lo ≤ u) && decide (u < (i:Int) - 300)))]) (fun i=>(hi + 301 - i).toNat) (lo + 300).toNat ?_ ⟨by omega,?_⟩ ?_
 ·simp (config := { maxSteps := 4000000 }) only [↓sxw,sxw,tf186,sxu,sxl,sxm,simprocAttr]
  try simp
  omega
 ·have:∀ u,(decide (lo ≤ u) && decide (u < ((lo + 300).toNat:Int) - 300)) = false:=fun u=>by
   rw [Bool.and_eq_false_iff,decide_eq_false_iff_not,decide_eq_false_iff_not]
   omega
  simp only [this,Bool.or_false]
 rintro i H1 g2 ⟨⟨hi1,hi2⟩,rfl⟩
 by_cases hend:(i:Int) - 300 ≤ hi
 case neg=>
  have q7:((i:Int) - 300 ≤ hi) = False:=eq_false hend
  have he:∀ u,(decide (lo ≤ u) && decide (u < (i:Int) - 300)) = inS (lo,hi) u:=fun u=>by
   unfold inS
   congr 1
   rw [decide_eq_decide]
   omega
  simp only [he]
  refine ⟨?_⟩
  simp (config := { maxSteps := 4000000 }) only [↓sxw,sxw,tf186,sxu,sxl,sxm,simprocAttr,q7]
  exact ⟨b,rfl,List.mem_cons_self⟩
 have q7:((i:Int) - 300 ≤ hi) = True:=eq_true hend
 have q8:wrK ((i:Int) - 300 + 300) = (i:Int):=(wrap_id (by omega)).trans (by omega)
 have q9:wrK ((i:Int) - 300 + 1) = ((i + 1:Nat):Int) - 300:=(wrap_id (by omega)).trans (by omega)
 have hst:∀ f:Int → Bool,(fun u=>(f u || decide (lo ≤ u) && decide (u < (i:Int) - 300)) || decide (u = (i:Int) - 300)) = fun u=>f u || decide (lo ≤ u) && decide (u < ((i + 1:Nat):Int) - 300):=fun f=>by
  funext u
  rw [Bool.or_assoc]
  congr 1
  rw [Bool.eq_iff_iff]
  simp only [Bool.or_eq_true,Bool.and_eq_true,decide_eq_true_eq]
  omega
 refine ⟨?_⟩
 simp (config := { maxSteps := 4000000 }) only [↓sxw,sxw,tf186,sxu,sxl,sxm,simprocAttr,q7,q8]
 refine ⟨by omega,by omega,?_⟩
 refine wr_cell1 (A:=[]) (i:=i) (by simp [add_block]) rfl (by rw [dcs_len]; omega) (dcs_set1 _ _ (by omega)) ?_
 simp (config := { maxSteps := 4000000 }) only [↓sxw,sxw,tf186,sxu,sxl,sxm,simprocAttr]
 refine ⟨by omega,by omega,?_⟩
 refine wr_cell1 (A:=[]) (i:=900 + i) (by simp [add_block]) rfl (by rw [dcs_len]; omega) (dcs_set2 _ _ (by omega)) ?_
 simp (config := { maxSteps := 4000000 }) only [↓sxw,sxw,tf186,sxu,sxl,sxm,simprocAttr,q9]
 refine ⟨i + 1,_,rfl,HImp.refl _ _,⟨by omega,?_⟩,by omega⟩
 rw [hst,hst]
def DutyOk (w:World) (b:Nat) (p q:Int → Bool):Prop:=∀ (j:Nat) v,(dcs p q)[j]? = some v → w.cell? ⟨b,j,none⟩ = some v
theorem DutyOk.of {w:World} {H:List HO} {w0:Base} {b:Nat} {p q:Int → Bool} (h:HO.cells b 249 (dcs p q) ∈ H) (hp:Hp w0 H w):DutyOk w b p q:=fun j v hj=>by
 rw [cell_of_cells (hp.ok _ h)]
 simpa using hj
theorem DutyOk.lt {w:World} {b:Nat} {p q:Int → Bool} (h:DutyOk w b p q):b < w.heap.size:=
 World.block_lt_of_cell? w ⟨b,0,none⟩ (h 0 _ (dcs_get1 p q (i:=0) (by omega)))
def ct (p:Nat → Bool):Nat → Nat
 | 0=>0
 | n + 1=>ct p n + if p n then 1 else 0
theorem ct_le (p:Nat → Bool):∀ n,ct p n ≤ n
 | 0=>Nat.le_refl _
 | n + 1=>by
  have:=ct_le p n
  rw [ct]
  split <;> omega
theorem count_fn (w:World) (bd b bs bf:Nat) (p q:Int → Bool) (i:Nat) (hi:i < 900) (n m y:Int) (hd:w.cell? ⟨bd,0,none⟩ = some (.pointer (some ⟨b,0,none⟩))) (hdu:DutyOk w b p q) (hs:HO.ok w (.cells bs 3 [I n])) (hf:HO.ok w (.cells bf 3 [I m])) (h1:bs ≠ bf) (h2:b ≠ bs ∧ b ≠ bf) (h3:bd ≠ bs ∧ bd ≠ bf)
  (hn:-2000 ≤ n + y ∧ n + y ≤ 2000) (hm:-2000 ≤ m + y ∧ m + y ≤ 2000):
  SX.Fn Tryz.prog 193 [I i,I y,.pointer (some ⟨bd,0,none⟩),.pointer (some ⟨bs,0,none⟩),.pointer (some ⟨bf,0,none⟩)] w (fpsx [.cells bs 3 [I n],.cells bf 3 [I m]]) fun r N=>r = .tuple #[] ∧ N = [.cells bs 3 [I (if p ((i:Int) - 300) then n + y else n)],.cells bf 3 [I (if q ((i:Int) - 300) then m + y else m)]]:=by
 have e1:wrK (n + y) = n + y:=wrap_id (by omega)
 have e2:wrK (m + y) = m + y:=wrap_id (by omega)
 have hX:∀ x,x ≠ bs ∧ x ≠ bf → ¬ fpsx [.cells bs 3 [I n],.cells bf 3 [I m]] x:=fun x hx ⟨h,hh,hb⟩=>by
  simp only [List.mem_cons,List.not_mem_nil,or_false] at hh
  rcases hh with rfl | rfl
  ·exact hx.1 hb
  ·exact hx.2 hb
 refine walk [] [] (det0K_ok _ _) Tryz.func193 rfl Tryz.ntmps193 res193 (by kernel_rfl) (H0:=[.cells bs 3 [I n],.cells bf 3 [I m]]) ⟨fun h hh=>?_,fun h hh b hb=>⟨h,hh,?_⟩,?_⟩ ?_
 ·simp only [List.mem_cons,List.not_mem_nil,or_false] at hh
  rcases hh with rfl | rfl
  ·exact hs
  ·exact hf
 ·simp only [List.mem_cons,List.not_mem_nil,or_false] at hh
  rcases hh with rfl | rfl <;> exact hb
 ·refine List.pairwise_cons.2 ⟨fun g hg c hc hc'=>?_,List.pairwise_singleton _ _⟩
  rw [List.mem_singleton] at hg
  subst hg
  exact absurd (hc.symm.trans hc') h1
 have hg1:=hdu i _ (dcs_get1 p q hi)
 have hg2:=hdu (900 + i) _ (dcs_get2 p q hi)
 cases hp:p ((i:Int) - 300) with
 | true=>
  rw [hp] at hg1
  cases hq:q ((i:Int) - 300) with
  | true=>
   rw [hq] at hg2
   simp (config := { maxSteps := 4000000 }) only [↓sxw,sxw,tf193,sxu,sxl,sxm,simprocAttr]
   refine ld_old hd (hX _ h3) ?_
   simp (config := { maxSteps := 4000000 }) only [↓sxw,sxw,tf193,sxu,sxl,sxm,simprocAttr]
   refine ⟨by omega,by omega,?_⟩
   refine ld_olda (by simp [add_block]) hg1 (hX _ h2) ?_
   simp (config := { maxSteps := 4000000 }) only [↓sxw,sxw,tf193,sxu,sxl,sxm,simprocAttr]
   refine ld_cell List.mem_cons_self rfl ?_
   simp (config := { maxSteps := 4000000 }) only [↓sxw,sxw,tf193,sxu,sxl,sxm,simprocAttr,e1]
   refine wr_cell (A:=[]) rfl (by simp) ?_
   simp (config := { maxSteps := 4000000 }) only [↓sxw,sxw,tf193,sxu,sxl,sxm,simprocAttr]
   refine ld_old hd (hX _ h3) ?_
   simp (config := { maxSteps := 4000000 }) only [↓sxw,sxw,tf193,sxu,sxl,sxm,simprocAttr]
   refine ⟨by omega,by omega,?_⟩
   refine ld_olda (by simp [add_block]) hg2 (hX _ h2) ?_
   simp (config := { maxSteps := 4000000 }) only [↓sxw,sxw,tf193,sxu,sxl,sxm,simprocAttr]
   refine ld_cell (List.mem_cons_of_mem _ List.mem_cons_self) rfl ?_
   simp (config := { maxSteps := 4000000 }) only [↓sxw,sxw,tf193,sxu,sxl,sxm,simprocAttr,e2]
   refine wr_cell (A:=[_]) rfl (by simp) ?_
   simp (config := { maxSteps := 4000000 }) only [↓sxw,sxw,tf193,sxu,sxl,sxm,simprocAttr]
  | false=>
   rw [hq] at hg2
   simp (config := { maxSteps := 4000000 }) only [↓sxw,sxw,tf193,sxu,sxl,sxm,simprocAttr]
   refine ld_old hd (hX _ h3) ?_
   simp (config := { maxSteps := 4000000 }) only [↓sxw,sxw,tf193,sxu,sxl,sxm,simprocAttr]
   refine ⟨by omega,by omega,?_⟩
   refine ld_olda (by simp [add_block]) hg1 (hX _ h2) ?_
   simp (config := { maxSteps := 4000000 }) only [↓sxw,sxw,tf193,sxu,sxl,sxm,simprocAttr]
   refine ld_cell List.mem_cons_self rfl ?_
   simp (config := { maxSteps := 4000000 }) only [↓sxw,sxw,tf193,sxu,sxl,sxm,simprocAttr,e1]
   refine wr_cell (A:=[]) rfl (by simp) ?_
   simp (config := { maxSteps := 4000000 }) only [↓sxw,sxw,tf193,sxu,sxl,sxm,simprocAttr]
   refine ld_old hd (hX _ h3) ?_
   simp (config := { maxSteps := 4000000 }) only [↓sxw,sxw,tf193,sxu,sxl,sxm,simprocAttr]
   refine ⟨by omega,by omega,?_⟩
   refine ld_olda (by simp [add_block]) hg2 (hX _ h2) ?_
   simp (config := { maxSteps := 4000000 }) only [↓sxw,sxw,tf193,sxu,sxl,sxm,simprocAttr]
 | false=>
  rw [hp] at hg1
  cases hq:q ((i:Int) - 300) with
  | true=>
   rw [hq] at hg2
   simp (config := { maxSteps := 4000000 }) only [↓sxw,sxw,tf193,sxu,sxl,sxm,simprocAttr]
   refine ld_old hd (hX _ h3) ?_
   simp (config := { maxSteps := 4000000 }) only [↓sxw,sxw,tf193,sxu,sxl,sxm,simprocAttr]
   refine ⟨by omega,by omega,?_⟩
   refine ld_olda (by simp [add_block]) hg1 (hX _ h2) ?_
   simp (config := { maxSteps := 4000000 }) only [↓sxw,sxw,tf193,sxu,sxl,sxm,simprocAttr]
   refine ld_old hd (hX _ h3) ?_
   simp (config := { maxSteps := 4000000 }) only [↓sxw,sxw,tf193,sxu,sxl,sxm,simprocAttr]
   refine ⟨by omega,by omega,?_⟩
   refine ld_olda (by simp [add_block]) hg2 (hX _ h2) ?_
   simp (config := { maxSteps := 4000000 }) only [↓sxw,sxw,tf193,sxu,sxl,sxm,simprocAttr]
   refine ld_cell (List.mem_cons_of_mem _ List.mem_cons_self) rfl ?_
   simp (config := { maxSteps := 4000000 }) only [↓sxw,sxw,tf193,sxu,sxl,sxm,simprocAttr,e2]
   refine wr_cell (A:=[_]) rfl (by simp) ?_
   simp (config := { maxSteps := 4000000 }) only [↓sxw,sxw,tf193,sxu,sxl,sxm,simprocAttr]
  | false=>
   rw [hq] at hg2
   simp (config := { maxSteps := 4000000 }) only [↓sxw,sxw,tf193,sxu,sxl,sxm,simprocAttr]
   refine ld_old hd (hX _ h3) ?_
   simp (config := { maxSteps := 4000000 }) only [↓sxw,sxw,tf193,sxu,sxl,sxm,simprocAttr]
   refine ⟨by omega,by omega,?_⟩
   refine ld_olda (by simp [add_block]) hg1 (hX _ h2) ?_
   simp (config := { maxSteps := 4000000 }) only [↓sxw,sxw,tf193,sxu,sxl,sxm,simprocAttr]
   refine ld_old hd (hX _ h3) ?_
   simp (config := { maxSteps := 4000000 }) only [↓sxw,sxw,tf193,sxu,sxl,sxm,simprocAttr]
   refine ⟨by omega,by omega,?_⟩
   refine ld_olda (by simp [add_block]) hg2 (hX _ h2) ?_
   simp (config := { maxSteps := 4000000 }) only [↓sxw,sxw,tf193,sxu,sxl,sxm,simprocAttr]
end Go.Proofs.YtljpknnhimkkjaaGreatDoor

namespace Go.Proofs.YtljpknnhimkkjaaGreatDoor
open Go.RowKit Go.SX
set_option maxRecDepth 10000
set_option maxHeartbeats 2000000
set_option linter.unusedSimpArgs false
set_option linter.unusedVariables false
def at300 (p:Int → Bool) (j:Nat):Bool:=p ((j:Int) - 300)
def alw (p q:Int → Bool) (W:Nat) (D:Int) (t:Nat):Prop:=0 < (ct (at300 q) (t + 1):Int) - ct (at300 q) (t + 1 - W) → (ct (at300 p) (t + 1):Int) - ct (at300 p) (t + 1 - W) ≤ D
def allAlw (p q:Int → Bool) (W:Nat) (D:Int):Prop:=∀ t,t < 900 → alw p q W D t
theorem ct_mono (p:Nat → Bool) {a b:Nat} (h:a ≤ b):ct p a ≤ ct p b:=by
 induction b with
 | zero=>rw [show a = 0 by omega]; exact Nat.le_refl _
 | succ b ih=>
  by_cases e:a = b + 1
  ·rw [e]; exact Nat.le_refl _
  ·have:=ih (by omega)
   rw [ct]
   omega
theorem ct_succ (p:Int → Bool) (n:Nat) (x:Int):(if p ((n:Int) - 300) then ((ct (at300 p) n:Int) - x) + 1 else (ct (at300 p) n:Int) - x) = (ct (at300 p) (n + 1):Int) - x:=by
 rw [ct]
 unfold at300
 split <;> omega
theorem ct_pred (p:Int → Bool) (n:Nat) (x:Int):(if p ((n:Int) - 300) then (x - (ct (at300 p) n:Int)) + -1 else x - (ct (at300 p) n:Int)) = x - (ct (at300 p) (n + 1):Int):=by
 rw [ct]
 unfold at300
 split <;> omega
open Classical in
theorem allowed_fn (w:World) (b:Nat) (p q:Int → Bool) (hdu:DutyOk w b p q) (W:Nat) (D:Int) (hW:1 ≤ W ∧ W ≤ 100):
  SX.Fn Tryz.prog 187 [.pointer (some ⟨b,0,none⟩),I W,I D] w (fun _=>False) fun r N=>r = .bool (decide (allAlw p q W D)):=by
 have hbl:=hdu.lt
 have hcount:∀ (n m:Int) (bd bs bf i:Nat) (y:Int) (B:List HO) w',Hp ⟨w,fun _=>False⟩ ([.cells bs 3 [I n],.cells bf 3 [I m]] ++ .cells bd 221 [.pointer (some ⟨b,0,none⟩)] :: B) w' → i < 900 → (-2000 ≤ n + y ∧ n + y ≤ 2000) → (-2000 ≤ m + y ∧ m + y ≤ 2000) →
   SX.Fn Tryz.prog 193 [I i,I y,.pointer (some ⟨bd,0,none⟩),.pointer (some ⟨bs,0,none⟩),.pointer (some ⟨bf,0,none⟩)] w' (fpsx [.cells bs 3 [I n],.cells bf 3 [I m]]) fun r N=>r = .tuple #[] ∧ N = [.cells bs 3 [I (if p ((i:Int) - 300) then n + y else n)],.cells bf 3 [I (if q ((i:Int) - 300) then m + y else m)]]:=by
  intro n m bd bs bf i y B w' hp hi h1 h2
  have hnd:=List.pairwise_cons.1 hp.nd
  have hnd2:=List.pairwise_cons.1 hnd.2
  have k1:bs ≠ bf:=fun e=>(hnd.1 (.cells bf 3 [I m]) (by simp) bs rfl e).1 rfl
  have k2:bd ≠ bs:=fun e=>(hnd.1 (.cells bd 221 [.pointer (some ⟨b,0,none⟩)]) (by simp) bs rfl e.symm).1 rfl
  have k3:bd ≠ bf:=fun e=>(hnd2.1 (.cells bd 221 [.pointer (some ⟨b,0,none⟩)]) (by simp) bf rfl e.symm).1 rfl
  have k4:b ≠ bs:=fun e=>by
   rcases hp.old (.cells bs 3 [I n]) (by simp) bs rfl with h | h
   ·exact h
   ·have h:w.heap.size ≤ bs:=h
    omega
  have k5:b ≠ bf:=fun e=>by
   rcases hp.old (.cells bf 3 [I m]) (by simp) bf rfl with h | h
   ·exact h
   ·have h:w.heap.size ≤ bf:=h
    omega
  exact count_fn w' bd b bs bf p q i hi n m y (cells_hp (T:=221) (by simp) hp) (fun j v hj=>by
   have:=hdu j v hj
   rw [World.cell?_of_block (w:=w) (hp.ext.block b hbl id)]
   exact this) (hp.ok _ (by simp)) (hp.ok _ (by simp)) k1 ⟨k4,k5⟩ ⟨k2,k3⟩ h1 h2
 have hA:∀ (n m:Int) (bs bf x:Nat),fps [.cells bs 3 [I n],.cells bf 3 [I m]] x → fpsx [.cells bs 3 [I n],.cells bf 3 [I m]] x:=fun n m bs bf x ⟨h,hh,hb⟩=>⟨h,hh,by
  simp only [List.mem_cons,List.not_mem_nil,or_false] at hh
  rcases hh with rfl | rfl <;> exact hb⟩
 refine walk [3,7,8] [] (det0K_ok _ _) Tryz.func187 rfl Tryz.ntmps187 res187 (by kernel_rfl) no_facts ?_
 simp (config := { maxSteps := 4000000 }) only [↓sxw,sxw,tf187,sxu,sxl,sxm,simprocAttr]
 intro bd bs bf
 refine wr_cell (A:=[_]) rfl (by simp) ?_
 simp (config := { maxSteps := 4000000 }) only [↓sxw,sxw,tf187,sxu,sxl,sxm,simprocAttr]
 refine wr_cell (A:=[]) rfl (by simp) ?_
 simp (config := { maxSteps := 4000000 }) only [↓sxw,sxw,tf187,sxu,sxl,sxm,simprocAttr]
 generalize hP:at300 p = P
 generalize hQ:at300 q = Q
 have eP:=fun n x=>ct_succ p n x
 have eQ:=fun n x=>ct_succ q n x
 have eP2:=fun n x=>ct_pred p n x
 have eQ2:=fun n x=>ct_pred q n x
 rw [hP] at eP eP2
 rw [hQ] at eQ eQ2
 have hbd:∀ (R:Nat → Bool) a b,b ≤ a → a ≤ 901 → 0 ≤ (ct R a:Int) - ct R b ∧ (ct R a:Int) - ct R b ≤ 901:=fun R a b h1 h2=>by
  have:=ct_mono R h1
  have:=ct_le R a
  omega
 generalize hcP:ct P = cP at eP eP2
 generalize hcQ:ct Q = cQ at eQ eQ2
 have hbP:∀ a b,b ≤ a → a ≤ 901 → 0 ≤ (cP a:Int) - cP b ∧ (cP a:Int) - cP b ≤ 901:=by rw [← hcP]; exact hbd P
 have hbQ:∀ a b,b ≤ a → a ≤ 901 → 0 ≤ (cQ a:Int) - cQ b ∧ (cQ a:Int) - cQ b ≤ 901:=by rw [← hcQ]; exact hbd Q
 clear hbd
 generalize hCD:HO.cells bd 221 [.pointer (some ⟨b,0,none⟩)] = CD
 refine loop_constH [.cells bs 3 [I ((cP 0:Int) - cP (0 - W))],.cells bf 3 [I ((cQ 0:Int) - cQ (0 - W))],CD] (by rw [Nat.zero_sub,Int.sub_self,Int.sub_self]; exact HImp.swap _ _ _ _) [(6,6),(10,10),(12,33)] (fun k:Nat=>[(12,I k)])
  (fun k H1=>k ≤ 900 ∧ (∀ t,t < k → alw p q W D t) ∧ H1 = [.cells bs 3 [I ((cP k:Int) - cP (k - W))],.cells bf 3 [I ((cQ k:Int) - cQ (k - W))],CD]) (fun k=>900 - k) 0 ?_ ⟨Nat.zero_le _,fun t h=>by omega,rfl⟩ ?_
 ·simp (config := { maxSteps := 4000000 }) only [↓sxw,sxw,tf187,sxu,sxl,sxm,simprocAttr]
  try simp
 rintro k H1 g1 ⟨hk,hall,rfl⟩
 by_cases hkn:k = 900
 ·have e7:((k:Int) < 900) = False:=eq_false (by omega)
  have hd:decide (allAlw p q W D) = true:=decide_eq_true fun t ht=>hall t (by omega)
  refine ⟨?_⟩
  simp (config := { maxSteps := 4000000 }) only [↓sxw,sxw,tf187,sxu,sxl,sxm,simprocAttr,e7,hd]
 have e7:((k:Int) < 900) = True:=eq_true (by omega)
 have e8:wrK (k + 1) = ((k + 1:Nat):Int):=(wrap_id (by omega)).trans (by omega)
 have b1:=hbP k (k - W) (by omega) (by omega)
 have b2:=hbQ k (k - W) (by omega) (by omega)
 have b3:=hbP (k + 1) (k - W) (by omega) (by omega)
 have b4:=hbQ (k + 1) (k - W) (by omega) (by omega)
 have hc1:=hcount ((cP k:Int) - cP (k - W)) ((cQ k:Int) - cQ (k - W)) bd bs bf k 1 []
 rw [eP,eQ,hCD] at hc1
 have hend:∀ {K:Prop},(0 < (cQ (k + 1):Int) - cQ (k + 1 - W) → (cP (k + 1):Int) - cP (k + 1 - W) ≤ D) → (∀ t,t < k + 1 → alw p q W D t):=fun {K} h t ht=>by
  by_cases e:t = k
  ·subst e
   unfold alw
   rw [hP,hQ,hcP,hcQ]
   exact h
  ·exact hall t (by omega)
 have hbad:(0 < (cQ (k + 1):Int) - cQ (k + 1 - W) ∧ ¬ (cP (k + 1):Int) - cP (k + 1 - W) ≤ D) → decide (allAlw p q W D) = false:=fun h=>decide_eq_false fun ha=>by
  have:=ha k (by omega)
  unfold alw at this
  rw [hP,hQ,hcP,hcQ] at this
  exact h.2 (this h.1)
 generalize hFr:(cQ (k + 1):Int) - cQ (k + 1 - W) = Fr at hend hbad
 generalize hSe:(cP (k + 1):Int) - cP (k + 1 - W) = Se at hend hbad
 by_cases hkW:k ≥ W
 case pos=>
  have e9:((k:Int) ≥ (W:Int)) = True:=eq_true (by omega)
  have f1:IntKind.i64.wrap ((k:Int) - (W:Int)) = ((k - W:Nat):Int):=(wrap_id (by omega)).trans (by omega)
  have z1:k - W + 1 = k + 1 - W:=by omega
  have hc2:=hcount ((cP (k + 1):Int) - cP (k - W)) ((cQ (k + 1):Int) - cQ (k - W)) bd bs bf (k - W) (-1) []
  rw [eP2,eQ2,hCD,z1,hFr,hSe,← f1] at hc2
  by_cases c1:Fr > 0
  case neg=>
   have p1:(Fr > 0) = False:=eq_false c1
   refine ⟨?_⟩
   simp (config := { maxSteps := 4000000 }) only [↓sxw,sxw,tf187,sxu,sxl,sxm,simprocAttr,e7,det0K]
   refine CallOb.mutH (A:=[.cells bs 3 [I ((cP k:Int) - cP (k - W))],.cells bf 3 [I ((cQ k:Int) - cQ (k - W))]]) (B:=[CD]) (HImp.refl _ _) (hA _ _ _ _) (fun w' hp=>hc1 w' hp (by omega) (by omega) (by omega)) ?_
   rintro r N ⟨rfl,rfl⟩
   refine ⟨?_⟩
   simp (config := { maxSteps := 4000000 }) only [↓sxw,sxw,tf187,sxu,sxl,sxm,simprocAttr,e9,det0K]
   refine CallOb.mutH (A:=[.cells bs 3 [I ((cP (k + 1):Int) - cP (k - W))],.cells bf 3 [I ((cQ (k + 1):Int) - cQ (k - W))]]) (B:=[CD]) (HImp.refl _ _) (hA _ _ _ _) (fun w' hp=>hc2 w' hp (by omega) (by omega) (by omega)) ?_
   rintro r N ⟨rfl,rfl⟩
   refine ⟨?_⟩
   refine ld_cell (List.mem_cons_of_mem _ List.mem_cons_self) rfl ?_
   simp (config := { maxSteps := 4000000 }) only [↓sxw,sxw,tf187,sxu,sxl,sxm,simprocAttr,p1,e8]
   exact ⟨k + 1,_,rfl,HImp.refl _ _,⟨by omega,hend (K:=True) (fun h=>absurd h c1),by rw [hFr,hSe]⟩,by omega⟩
  have p1:(Fr > 0) = True:=eq_true c1
  by_cases c2:Se > D
  ·have p2:(Se > D) = True:=eq_true c2
   have hb:=hbad ⟨c1,by omega⟩
   refine ⟨?_⟩
   simp (config := { maxSteps := 4000000 }) only [↓sxw,sxw,tf187,sxu,sxl,sxm,simprocAttr,e7,det0K]
   refine CallOb.mutH (A:=[.cells bs 3 [I ((cP k:Int) - cP (k - W))],.cells bf 3 [I ((cQ k:Int) - cQ (k - W))]]) (B:=[CD]) (HImp.refl _ _) (hA _ _ _ _) (fun w' hp=>hc1 w' hp (by omega) (by omega) (by omega)) ?_
   rintro r N ⟨rfl,rfl⟩
   refine ⟨?_⟩
   simp (config := { maxSteps := 4000000 }) only [↓sxw,sxw,tf187,sxu,sxl,sxm,simprocAttr,e9,det0K]
   refine CallOb.mutH (A:=[.cells bs 3 [I ((cP (k + 1):Int) - cP (k - W))],.cells bf 3 [I ((cQ (k + 1):Int) - cQ (k - W))]]) (B:=[CD]) (HImp.refl _ _) (hA _ _ _ _) (fun w' hp=>hc2 w' hp (by omega) (by omega) (by omega)) ?_
   rintro r N ⟨rfl,rfl⟩
   refine ⟨?_⟩
   refine ld_cell (List.mem_cons_of_mem _ List.mem_cons_self) rfl ?_
   simp (config := { maxSteps := 4000000 }) only [↓sxw,sxw,tf187,sxu,sxl,sxm,simprocAttr,p1]
   refine ld_cell List.mem_cons_self rfl ?_
   simp (config := { maxSteps := 4000000 }) only [↓sxw,sxw,tf187,sxu,sxl,sxm,simprocAttr,p2,hb]
  ·have p2:(Se > D) = False:=eq_false c2
   refine ⟨?_⟩
   simp (config := { maxSteps := 4000000 }) only [↓sxw,sxw,tf187,sxu,sxl,sxm,simprocAttr,e7,det0K]
   refine CallOb.mutH (A:=[.cells bs 3 [I ((cP k:Int) - cP (k - W))],.cells bf 3 [I ((cQ k:Int) - cQ (k - W))]]) (B:=[CD]) (HImp.refl _ _) (hA _ _ _ _) (fun w' hp=>hc1 w' hp (by omega) (by omega) (by omega)) ?_
   rintro r N ⟨rfl,rfl⟩
   refine ⟨?_⟩
   simp (config := { maxSteps := 4000000 }) only [↓sxw,sxw,tf187,sxu,sxl,sxm,simprocAttr,e9,det0K]
   refine CallOb.mutH (A:=[.cells bs 3 [I ((cP (k + 1):Int) - cP (k - W))],.cells bf 3 [I ((cQ (k + 1):Int) - cQ (k - W))]]) (B:=[CD]) (HImp.refl _ _) (hA _ _ _ _) (fun w' hp=>hc2 w' hp (by omega) (by omega) (by omega)) ?_
   rintro r N ⟨rfl,rfl⟩
   refine ⟨?_⟩
   refine ld_cell (List.mem_cons_of_mem _ List.mem_cons_self) rfl ?_
   simp (config := { maxSteps := 4000000 }) only [↓sxw,sxw,tf187,sxu,sxl,sxm,simprocAttr,p1]
   refine ld_cell List.mem_cons_self rfl ?_
   simp (config := { maxSteps := 4000000 }) only [↓sxw,sxw,tf187,sxu,sxl,sxm,simprocAttr,p2,e8]
   exact ⟨k + 1,_,rfl,HImp.refl _ _,⟨by omega,hend (K:=True) (fun _=>by omega),by rw [hFr,hSe]⟩,by omega⟩
 have e9:((k:Int) ≥ (W:Int)) = False:=eq_false (by omega)
 have z1:k - W = k + 1 - W:=by omega
 rw [← z1] at hFr hSe
 rw [hFr,hSe] at hc1
 by_cases c1:Fr > 0
 case neg=>
  have p1:(Fr > 0) = False:=eq_false c1
  refine ⟨?_⟩
  simp (config := { maxSteps := 4000000 }) only [↓sxw,sxw,tf187,sxu,sxl,sxm,simprocAttr,e7,det0K]
  refine CallOb.mutH (A:=[.cells bs 3 [I ((cP k:Int) - cP (k - W))],.cells bf 3 [I ((cQ k:Int) - cQ (k - W))]]) (B:=[CD]) (HImp.refl _ _) (hA _ _ _ _) (fun w' hp=>hc1 w' hp (by omega) (by omega) (by omega)) ?_
  rintro r N ⟨rfl,rfl⟩
  refine ⟨?_⟩
  simp (config := { maxSteps := 4000000 }) only [↓sxw,sxw,tf187,sxu,sxl,sxm,simprocAttr,e9]
  refine ld_cell (List.mem_cons_of_mem _ List.mem_cons_self) rfl ?_
  simp (config := { maxSteps := 4000000 }) only [↓sxw,sxw,tf187,sxu,sxl,sxm,simprocAttr,p1,e8]
  exact ⟨k + 1,_,rfl,HImp.refl _ _,⟨by omega,hend (K:=True) (fun h=>absurd h c1),by rw [← z1,hFr,hSe]⟩,by omega⟩
 have p1:(Fr > 0) = True:=eq_true c1
 by_cases c2:Se > D
 ·have p2:(Se > D) = True:=eq_true c2
  have hb:=hbad ⟨c1,by omega⟩
  refine ⟨?_⟩
  simp (config := { maxSteps := 4000000 }) only [↓sxw,sxw,tf187,sxu,sxl,sxm,simprocAttr,e7,det0K]
  refine CallOb.mutH (A:=[.cells bs 3 [I ((cP k:Int) - cP (k - W))],.cells bf 3 [I ((cQ k:Int) - cQ (k - W))]]) (B:=[CD]) (HImp.refl _ _) (hA _ _ _ _) (fun w' hp=>hc1 w' hp (by omega) (by omega) (by omega)) ?_
  rintro r N ⟨rfl,rfl⟩
  refine ⟨?_⟩
  simp (config := { maxSteps := 4000000 }) only [↓sxw,sxw,tf187,sxu,sxl,sxm,simprocAttr,e9]
  refine ld_cell (List.mem_cons_of_mem _ List.mem_cons_self) rfl ?_
  simp (config := { maxSteps := 4000000 }) only [↓sxw,sxw,tf187,sxu,sxl,sxm,simprocAttr,p1]
  refine ld_cell List.mem_cons_self rfl ?_
  simp (config := { maxSteps := 4000000 }) only [↓sxw,sxw,tf187,sxu,sxl,sxm,simprocAttr,p2,hb]
 ·have p2:(Se > D) = False:=eq_false c2
  refine ⟨?_⟩
  simp (config := { maxSteps := 4000000 }) only [↓sxw,sxw,tf187,sxu,sxl,sxm,simprocAttr,e7,det0K]
  refine CallOb.mutH (A:=[.cells bs 3 [I ((cP k:Int) - cP (k - W))],.cells bf 3 [I ((cQ k:Int) - cQ (k - W))]]) (B:=[CD]) (HImp.refl _ _) (hA _ _ _ _) (fun w' hp=>hc1 w' hp (by omega) (by omega) (by omega)) ?_
  rintro r N ⟨rfl,rfl⟩
  refine ⟨?_⟩
  simp (config := { maxSteps := 4000000 }) only [↓sxw,sxw,tf187,sxu,sxl,sxm,simprocAttr,e9]
  refine ld_cell (List.mem_cons_of_mem _ List.mem_cons_self) rfl ?_
  simp (config := { maxSteps := 4000000 }) only [↓sxw,sxw,tf187,sxu,sxl,sxm,simprocAttr,p1]
  refine ld_cell List.mem_cons_self rfl ?_
  simp (config := { maxSteps := 4000000 }) only [↓sxw,sxw,tf187,sxu,sxl,sxm,simprocAttr,p2,e8]
  exact ⟨k + 1,_,rfl,HImp.refl _ _,⟨by omega,hend (K:=True) (fun _=>by omega),by rw [← z1,hFr,hSe]⟩,by omega⟩
end Go.Proofs.YtljpknnhimkkjaaGreatDoor

