/- Parts of a proof: the symbolic walk and what it shows of single functions. -/
import Derived.Test.YtljpknnhimkkjaaGreatDoorK3
import Derived.Test.YtljpknnhimkkjaaGreatDoorK2
set_option linter.all false
namespace Go.Proofs.YtljpknnhimkkjaaGreatDoor
open Go.RowKit Go.SX
set_option maxRecDepth 10000
set_option maxHeartbeats 4000000
set_option linter.unusedSimpArgs false
set_option linter.unusedVariables false
def wc (p:Int → Bool) (t:Int):Nat → Nat
 | 0=>0
 | n + 1=>wc p t n + if p (t + n) then 1 else 0
theorem ct_wc (p:Int → Bool) (m:Nat):∀ n,ct (at300 p) (m + n) = ct (at300 p) m + wc p ((m:Int) - 300) n
 | 0=>rfl
 | n + 1=>by
  rw [← Nat.add_assoc,ct,ct_wc p m n,wc,Nat.add_assoc]
  have:at300 p (m + n) = p ((m:Int) - 300 + n):=by
   unfold at300
   rw [show (((m + n:Nat):Int) - 300) = (m:Int) - 300 + n by omega]
  rw [this]
theorem wc_or (p q:Int → Bool) (hd:∀ u,p u = true → q u = true → False) (t:Int) (n:Nat):wc (fun u=>p u || q u) t n = wc p t n + wc q t n:=by
 induction n with
 | zero=>rfl
 | succ n ih=>
  rw [wc,wc,wc,ih]
  have:=hd (t + n)
  cases hp:p (t + n) <;> cases hq:q (t + n) <;> simp_all <;> omega
theorem wc_pos {p:Int → Bool} {t:Int} {n:Nat}:0 < wc p t n ↔ ∃ u,t ≤ u ∧ u < t + n ∧ p u = true:=by
 induction n with
 | zero=>
  rw [wc]
  exact ⟨fun h=>by omega,fun ⟨u,h1,h2,_⟩=>by omega⟩
 | succ n ih=>
  rw [wc]
  constructor
  ·intro h
   by_cases hp:p (t + n) = true
   ·exact ⟨t + n,by omega,by omega,hp⟩
   ·rw [if_neg hp] at h
    obtain ⟨u,h1,h2,h3⟩:=ih.1 (by omega)
    exact ⟨u,h1,by omega,h3⟩
  ·rintro ⟨u,h1,h2,h3⟩
   by_cases hu:u = t + n
   ·rw [hu] at h3
    rw [if_pos h3]
    omega
   ·have:=ih.2 ⟨u,h1,by omega,h3⟩
    omega
def com (a b:Spn):Int:=max 0 (min a.2 b.2 - max a.1 b.1 + 1)
theorem wc_span (s:Spn) (t:Int) (n:Nat) (hs:s.1 ≤ s.2 + 1):(wc (inS s) t n:Int) = com (t,t + n - 1) s:=by
 induction n with
 | zero=>
  rw [wc]
  unfold com
  simp only
  omega
 | succ n ih=>
  rw [wc]
  have:inS s (t + n) = (decide (s.1 ≤ t + n) && decide (t + n ≤ s.2)):=rfl
  rw [this]
  unfold com at ih ⊢
  simp only at ih ⊢
  generalize wc (inS s) t n = c at ih
  by_cases c1:s.1 ≤ t + n
  ·by_cases c2:t + n ≤ s.2
   ·simp only [c1,c2,decide_true,Bool.and_self,if_true]
    omega
   ·simp only [c1,c2,decide_true,decide_false,Bool.and_false,Bool.false_eq_true,if_false]
    omega
  ·simp only [c1,decide_false,Bool.false_and,Bool.false_eq_true,if_false]
   omega
def comL (w:Spn) (l:List Spn):Int:=(l.map (com w)).foldr (· + ·) 0
theorem comL_cons (w s:Spn) (l:List Spn):comL w (s :: l) = com w s + comL w l:=rfl
def disj:List Spn → Prop
 | []=>True
 | s :: l=>s.1 ≤ s.2 + 1 ∧ (∀ x ∈ l,∀ u,inS s u = true → inS x u = true → False) ∧ disj l
theorem srv_cons (s:Spn) (l:List Spn) (u:Int):srv (s :: l) u = (inS s u || srv l u):=by
 unfold srv
 rw [List.any_cons]
theorem srv_mem {l:List Spn} {u:Int}:srv l u = true ↔ ∃ s ∈ l,inS s u = true:=by
 unfold srv
 rw [List.any_eq_true]
theorem wc_none (t:Int) (n:Nat):wc (fun _=>false) t n = 0:=by
 induction n with
 | zero=>rfl
 | succ n ih=>rw [wc,ih]; rfl
theorem wc_srv {l:List Spn} (hd:disj l) (t:Int) (n:Nat):(wc (srv l) t n:Int) = comL (t,t + n - 1) l:=by
 induction l with
 | nil=>
  have:srv [] = fun _=>false:=rfl
  rw [this,wc_none]
  try rfl
 | cons s l ih=>
  obtain ⟨h1,h2,h3⟩:=hd
  have:srv (s :: l) = fun u=>inS s u || srv l u:=funext fun u=>srv_cons s l u
  rw [this,wc_or _ _ (fun u hu hv=>by obtain ⟨x,hx,hxu⟩:=srv_mem.1 hv; exact h2 x hx u hu hxu),comL_cons,Int.natCast_add,wc_span s t n h1,ih h3]
theorem inS_iff {s:Spn} {u:Int}:inS s u = true ↔ s.1 ≤ u ∧ u ≤ s.2:=by
 unfold inS
 rw [Bool.and_eq_true,decide_eq_true_eq,decide_eq_true_eq]
theorem logB_disj:∀ {l:List Spn} {last:Int},logB last l = true → disj l
 | [],_,_=>trivial
 | s :: l,last,h=>by
  simp only [logB,Bool.and_eq_true,decide_eq_true_eq] at h
  refine ⟨by omega,fun x hx u h1 h2=>?_,logB_disj h.2⟩
  have:=logB_mem h.2 x hx
  rw [inS_iff] at h1 h2
  omega
def restP (p q:Int → Bool) (W:Nat) (D:Int):Prop:=∀ t:Int,0 < wc q t W → (wc p t W:Int) ≤ D
theorem allAlw_iff (p q:Int → Bool) (W:Nat) (D:Int) (hW:W ≤ 100) (hq:∀ u,q u = true → 0 ≤ u ∧ u ≤ 490):allAlw p q W D ↔ restP p q W D:=by
 have key:∀ (r:Int → Bool) (t:Nat),W ≤ t + 1 → (ct (at300 r) (t + 1):Int) - ct (at300 r) (t + 1 - W) = wc r (((t + 1 - W:Nat):Int) - 300) W:=fun r t ht=>by
  have:=ct_wc r (t + 1 - W) W
  rw [show t + 1 - W + W = t + 1 by omega] at this
  rw [this,Int.natCast_add]
  omega
 constructor
 ·intro h t hp
  obtain ⟨u,h1,h2,h3⟩:=wc_pos.1 hp
  have:=hq u h3
  have hk:=h (t + W - 1 + 300).toNat (by omega)
  unfold alw at hk
  rw [key _ _ (by omega),key _ _ (by omega)] at hk
  rw [show (((t + W - 1 + 300).toNat + 1 - W:Nat):Int) - 300 = t by omega] at hk
  exact hk (by omega)
 ·intro h t ht
  unfold alw
  by_cases c:W ≤ t + 1
  ·rw [key _ _ c,key _ _ c]
   intro hp
   exact h _ (by omega)
  ·intro hp
   exfalso
   rw [show t + 1 - W = 0 by omega] at hp
   have h0:ct (at300 q) 0 = 0:=rfl
   rw [h0] at hp
   have:=ct_wc q 0 (t + 1)
   rw [Nat.zero_add,h0,Nat.zero_add] at this
   rw [this] at hp
   obtain ⟨u,h1,h2,h3⟩:=wc_pos.1 (show 0 < wc q (((0:Nat):Int) - 300) (t + 1) by omega)
   have:=hq u h3
   omega
def servP (s:Stn) (h:Hnd) (l:List Spn):Prop:=∀ x ∈ l,∀ t:Int,x.1 - s.window + 1 ≤ t → t ≤ x.2 → comL (t,t + s.window - 1) h.log + comL (t,t + s.window - 1) l ≤ s.duty
def newOk (l:List Spn):Prop:=disj l ∧ ∀ x ∈ l,0 ≤ x.1 ∧ x.1 ≤ x.2 ∧ x.2 ≤ 490
theorem servP_iff {s:Stn} {h:Hnd} {l:List Spn} (hW:1 ≤ s.window ∧ s.window ≤ 100) (hlog:logdB h.log = true) (hn:newOk l):servP s h l ↔ restP (fun u=>srv h.log u || srv l u) (srv l) s.window.toNat s.duty:=by
 unfold logdB at hlog
 rw [Bool.and_eq_true] at hlog
 have hmem:=logB_mem hlog.1
 have hdl:=logB_disj hlog.1
 have hcount:∀ t,(wc (fun u=>srv h.log u || srv l u) t s.window.toNat:Int) = comL (t,t + s.window - 1) h.log + comL (t,t + s.window - 1) l:=fun t=>by
  rw [wc_or _ _ (fun u h1 h2=>?_),Int.natCast_add,wc_srv hdl,wc_srv hn.1,show (s.window.toNat:Int) = s.window by omega]
  obtain ⟨x,hx,hxu⟩:=srv_mem.1 h1
  obtain ⟨y,hy,hyu⟩:=srv_mem.1 h2
  have:=hmem x hx
  have:=hn.2 y hy
  rw [inS_iff] at hxu hyu
  omega
 constructor
 ·intro hs t hp
  obtain ⟨u,h1,h2,h3⟩:=wc_pos.1 hp
  obtain ⟨x,hx,hxu⟩:=srv_mem.1 h3
  rw [inS_iff] at hxu
  rw [hcount]
  exact hs x hx t (by omega) (by omega)
 ·intro hr x hx t h1 h2
  rw [← hcount]
  have hx2:=hn.2 x hx
  refine hr t (wc_pos.2 ?_)
  by_cases c:t ≤ x.1
  ·exact ⟨x.1,c,by omega,srv_mem.2 ⟨x,hx,inS_iff.2 ⟨by omega,by omega⟩⟩⟩
  ·exact ⟨t,by omega,by omega,srv_mem.2 ⟨x,hx,inS_iff.2 ⟨by omega,by omega⟩⟩⟩
end Go.Proofs.YtljpknnhimkkjaaGreatDoor

namespace Go.Proofs.YtljpknnhimkkjaaGreatDoor
open Go.RowKit Go.SX
set_option maxRecDepth 10000
set_option maxHeartbeats 4000000
set_option linter.unusedSimpArgs false
set_option linter.unusedVariables false
def comw (a b c d:Int):Int:=max 0 (wrK (wrK (min b d - max a c) + 1))
theorem common_fn (w:World) (a b c d:Int):SX.Fn Tryz.prog 194 [.agg #[I a,I b],.agg #[I c,I d]] w (fun _=>False) fun v N=>v = I (comw a b c d):=by
 refine walk [] [] (det0K_ok _ _) Tryz.func194 rfl Tryz.ntmps194 res194 (by kernel_rfl) no_facts ?_
 simp (config := { maxSteps := 4000000 }) only [↓sxw,sxw,tf194,sxu,sxl,sxm,simprocAttr]
 try rfl
def detBK:Nat → List Value → Option Value
 | 194,[.agg ⟨[.int .i64 a,.int .i64 b]⟩,.agg ⟨[.int .i64 c,.int .i64 d]⟩]=>some (I (comw a b c d))
 | g,xs=>detAK g xs
theorem detB_ok (w0:World) (X:Nat → Prop):DetFn Tryz.prog ⟨w0,X⟩ detBK:=by
 intro g args v h w hk
 unfold detBK at h
 split at h
 ·cases h
  exact det_of_fnK (common_fn w _ _ _ _)
 ·exact detAK_ok w0 X _ _ _ h w hk
theorem detB_eq:(∀ n l h:Int,detBK 67 [I n,I l,I h] = some (.bool (inBK n l h))) ∧ (∀ n l h:Int,detBK 107 [I n,I l,I h] = some (.bool (inBK n l h))) ∧ (∀ n:Int,detBK 153 [I n] = some (.bool (inBK n 0 255))) ∧ (∀ a b c d:Int,detBK 194 [.agg #[I a,I b],.agg #[I c,I d]] = some (I (comw a b c d))):=⟨fun _ _ _=>rfl,fun _ _ _=>rfl,fun _=>rfl,fun _ _ _ _=>rfl⟩
end Go.Proofs.YtljpknnhimkkjaaGreatDoor

namespace Go.Proofs.YtljpknnhimkkjaaGreatDoor
open Go.RowKit Go.SX
set_option maxRecDepth 10000
set_option maxHeartbeats 4000000
set_option linter.unusedSimpArgs false
set_option linter.unusedVariables false
def CpN (N:List HO) (v:Value) (s:Stn):Prop:=∃ ao co ps,v = .agg #[.slice ao s.hands.length co,I s.window,I s.duty] ∧ ps.map Prod.fst = s.hands ∧ (ao = none → ps = []) ∧ ∃ DF,N = HO.row (.slice ao s.hands.length co) 61 5 (cat hdc ps) :: DF ∧ ∀ p ∈ ps,HO.row (lgv p) 49 2 (cat spcK p.1.log) ∈ DF
theorem CpN.ok {N H:List HO} {w0:Base} {w:World} {v:Value} {s:Stn} (h:CpN N v s) (hm:∀ h ∈ N,h ∈ H) (hp:Hp w0 H w):StOk w v s:=by
 obtain ⟨ao,co,ps,rfl,h1,h2,DF,rfl,h4⟩:=h
 exact ⟨_,ps,rfl,h1,row_hp (hm _ List.mem_cons_self) hp,fun p hp'=>row_hp (hm _ (List.mem_cons_of_mem _ (h4 p hp'))) hp⟩
end Go.Proofs.YtljpknnhimkkjaaGreatDoor

namespace Go.Proofs.YtljpknnhimkkjaaGreatDoor
open Go.RowKit Go.SX
set_option maxRecDepth 10000
set_option maxHeartbeats 4000000
set_option linter.unusedSimpArgs false
set_option linter.unusedVariables false
abbrev Lm:=List Int × Option Addr × Nat
def lmv (p:Lm):Value:=.slice p.2.1 p.1.length p.2.2
def lmc (p:Lm):List Value:=[lmv p]
theorem lmc_len (p:Lm):(lmc p).length = 1:=rfl
theorem lmc_one (p:Lm):∀ y ∈ lmc p,y.oneCell' = true:=by simp [lmc,lmv,Value.oneCell']
def LlOk (w:World) (v:Value) (cs:List (List Int)):Prop:=∃ ps:List Lm,ps.map Prod.fst = cs ∧ Sl w v 1 (cat lmc ps) ∧ ∀ p ∈ ps,Sl w (lmv p) 1 (ints p.1)
theorem LlOk.hp {w0:World} {H:List HO} {v:Value} {cs:List (List Int)} (h:LlOk w0 v cs) {w:World} (hp:Hp ⟨w0,fun _=>False⟩ H w):LlOk w v cs:=by
 obtain ⟨ps,h1,h2,h3⟩:=h
 exact ⟨ps,h1,Sl.hp (w0:=⟨w0,fun _=>False⟩) h2 (fun _ _=>id) hp,fun p hm=>Sl.hp (w0:=⟨w0,fun _=>False⟩) (h3 p hm) (fun _ _=>id) hp⟩
end Go.Proofs.YtljpknnhimkkjaaGreatDoor

namespace Go.Proofs.YtljpknnhimkkjaaGreatDoor
open Go.RowKit Go.SX
set_option maxRecDepth 10000
set_option maxHeartbeats 4000000
set_option linter.unusedSimpArgs false
set_option linter.unusedVariables false
theorem rseats_fn (w:World) (v:Value) (l:List Int) (hs:Sl w v 1 (ints l)):SX.Fn Tryz.prog 108 [v] w (fun _=>False) fun r N=>r = I (seatE l):=by
 obtain ⟨a,n,c,rfl⟩:=hs.shape
 have hn:=hs.le i1_len (by omega)
 subst hn
 have hr:=hs.rd0
 unfold seatE
 by_cases h5:l.length > 5
 ·have e0:((l.length:Int) > 5) = True:=eq_true (by omega)
  rw [if_pos h5]
  refine walk [] [] (detB_ok _ _) Tryz.func108 rfl Tryz.ntmps108 res108 (by kernel_rfl) no_facts ?_
  simp (config := { maxSteps := 4000000 }) only [↓sxw,sxw,tf108,sxu,sxl,sxm,simprocAttr,e0]
 have e0:((l.length:Int) > 5) = False:=eq_false (by omega)
 rw [if_neg h5]
 refine walk [] [] (detB_ok _ _) Tryz.func108 rfl Tryz.ntmps108 res108 (by kernel_rfl) no_facts ?_
 simp (config := { maxSteps := 4000000 }) only [↓sxw,sxw,tf108,sxu,sxl,sxm,simprocAttr,e0]
 refine loop_constH [] (HImp.nil _ _) [(2,3),(7,18)] (fun i:Nat=>[(2,I 0),(3,I i)]) (fun i H1=>i ≤ l.length ∧ l.any (fun n=>!inBK n 0 255) = (l.drop i).any (fun n=>!inBK n 0 255)) (fun i=>l.length - i) 0 ?_ ⟨Nat.zero_le _,rfl⟩ ?_
 ·simp (config := { maxSteps := 4000000 }) only [↓sxw,sxw,tf108,sxu,sxl,sxm,simprocAttr]
  try simp
 rintro i H1 g1 ⟨hi,hinv⟩
 by_cases hin:i = l.length
 ·have e7:((i:Int) < (l.length:Int)) = False:=eq_false (by omega)
  rw [List.drop_of_length_le (by omega),List.any_nil] at hinv
  rw [hinv]
  refine ⟨?_⟩
  simp (config := { maxSteps := 4000000 }) only [↓sxw,sxw,tf108,sxu,sxl,sxm,simprocAttr,e7]
 have e7:((i:Int) < (l.length:Int)) = True:=eq_true (by omega)
 have e2:wrK (i + 1) = ((i + 1:Nat):Int):=(wrap_id (by omega)).trans (by omega)
 have hil:i < l.length:=by omega
 have hu:=List.getElem?_eq_getElem hil
 rw [List.drop_eq_getElem_cons hil,List.any_cons] at hinv
 generalize l[i] = y at hu hinv
 cases hy:inBK y 0 255 with
 | false=>
  rw [hy,Bool.not_false,Bool.true_or] at hinv
  rw [hinv]
  refine ⟨?_⟩
  simp (config := { maxSteps := 4000000 }) only [↓sxw,sxw,tf108,sxu,sxl,sxm,simprocAttr,e7]
  refine amid (at_1 (hr _) i1_len hu rfl fun ad1=>?_)
  simp (config := { maxSteps := 4000000 }) only [↓sxw,sxw,tf108,sxu,sxl,sxm,simprocAttr,detB_eq,hy]
 | true=>
  rw [hy,Bool.not_true,Bool.false_or] at hinv
  refine ⟨?_⟩
  simp (config := { maxSteps := 4000000 }) only [↓sxw,sxw,tf108,sxu,sxl,sxm,simprocAttr,e7]
  refine amid (at_1 (hr _) i1_len hu rfl fun ad1=>?_)
  simp (config := { maxSteps := 4000000 }) only [↓sxw,sxw,tf108,sxu,sxl,sxm,simprocAttr,detB_eq,hy,e2]
  exact ⟨i + 1,_,rfl,HImp.refl _ _,⟨by omega,hinv⟩,by omega⟩
theorem rcseats_fn (w:World) (v:Value) (s:Stn) (hs:StOk w v s) (hsm:s.small) (call:Int) (vs:Value) (seats:List Int) (hvs:Sl w vs 1 (ints seats)) (len:Int):
  SX.Fn Tryz.prog 53 [v,I call,vs,I len] w (fun _=>False) fun r N=>r = I (callE s call seats len):=by
 have hs0:=hs
 obtain ⟨hv,ps,rfl,hps,hsl,hlg⟩:=hs
 obtain ⟨a,n,c,rfl⟩:=hsl.shape
 obtain ⟨asx,ns,cs,rfl⟩:=hvs.shape
 have dn:(∀ xs,detBK 106 xs = none) ∧ (∀ xs,detBK 108 xs = none):=⟨fun _=>rfl,fun _=>rfl⟩
 unfold callE
 refine walk [] [] (detB_ok _ _) Tryz.func53 rfl Tryz.ntmps53 res53 (by kernel_rfl) no_facts ?_
 simp (config := { maxSteps := 4000000 }) only [↓sxw,sxw,tf53,sxu,sxl,sxm,simprocAttr,dn]
 refine CallOb.pureH (fun w' hp=>rcheck_fnK w' _ s (hs0.hp hp) hsm) ?_
 rintro r N rfl
 cases hok:s.okB with
 | false=>
  refine ⟨?_⟩
  simp (config := { maxSteps := 4000000 }) only [↓sxw,sxw,tf53,sxu,sxl,sxm,simprocAttr]
 | true=>
 cases h1:inBK call 0 100 with
 | false=>
  refine ⟨?_⟩
  simp (config := { maxSteps := 4000000 }) only [↓sxw,sxw,tf53,sxu,sxl,sxm,simprocAttr,detB_eq,h1]
 | true=>
 cases h2:inBK len 1 40 with
 | false=>
  refine ⟨?_⟩
  simp (config := { maxSteps := 4000000 }) only [↓sxw,sxw,tf53,sxu,sxl,sxm,simprocAttr,detB_eq,h1,h2]
 | true=>
 refine ⟨?_⟩
 simp (config := { maxSteps := 4000000 }) only [↓sxw,sxw,tf53,sxu,sxl,sxm,simprocAttr,dn,detB_eq,h1,h2]
 refine CallOb.pureH (fun w' hp=>rseats_fn w' _ seats (hvs.hp (fun _ _=>id) hp)) ?_
 rintro r N2 rfl
 refine ⟨?_⟩
 simp (config := { maxSteps := 4000000 }) only [↓sxw,sxw,tf53,sxu,sxl,sxm,simprocAttr]
end Go.Proofs.YtljpknnhimkkjaaGreatDoor

