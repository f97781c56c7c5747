/- Parts of a proof: the symbolic walk and what it shows of single functions. -/
import Derived.Test.YtljpknnhimkkjaaGreatDoorX4
import Derived.Test.YtljpknnhimkkjaaGreatDoorX3
import Derived.Laws.Bits64
set_option linter.all false
namespace Go.Proofs.YtljpknnhimkkjaaGreatDoor
open Go.RowKit Go.SX
set_option maxRecDepth 4000
set_option maxHeartbeats 4000000
set_option linter.unusedSimpArgs false
set_option linter.unusedVariables false
abbrev wr (n:Int):Int:=IntKind.i64.wrap n
def det0:Nat → List Value → Option Value:=fun _ _=>none
theorem det0_ok (w0:World) (X:Nat → Prop):DetFn Tryz.prog ⟨w0,X⟩ det0:=fun _ _ _ h=>by cases h
theorem det_of_fn {g:Nat} {args:List Value} {v:Value} {w:World} (h:SX.Fn Tryz.prog g args w (fun _=>False) fun u N=>u = v):Calls Tryz.prog g args.toArray w fun e w'=>e = .returned v ∧ Keep (fun _=>False) w w':=
 Calls.mono h fun e w' ⟨u,N,he,hk,_,_,_,hu⟩=>⟨by rw [he,hu],hk⟩
def inB (n l h:Int):Bool:=decide (l ≤ n ∧ n ≤ h)
theorem inB_iff (n a b:Int):inB n a b = true ↔ a ≤ n ∧ n ≤ b:=by
 unfold inB
 try simp
theorem within_fn (w:World) (n l h:Int):SX.Fn Tryz.prog 61 [I n,I l,I h] w (fun _=>False) fun v N=>v = .bool (inB n l h):=by
 refine walk [] [] (det0_ok _ _) Tryz.func61 rfl Tryz.ntmps61 res61 (by kernel_rfl) no_facts ?_
 simp (config := { maxSteps := 4000000 }) only [↓sxw,sxw,tf61,sxu,sxl,sxm,Int.reduceBEq,Int.reduceBNe,Int.reduceLT,Int.reduceLE,Int.reduceEq,Int.reduceGT,Int.reduceGE,Int.reduceToNat,↓reduceIte,List.reduceReplicate,Nat.reduceAdd,Nat.reduceSub,Nat.reduceMul,Nat.reduceLT,Nat.reduceLeDiff,Nat.reduceBEq,Nat.reduceEqDiff]
 unfold inB
 exact ⟨fun h1=>by simp [h1],fun h1=>by simp [h1]⟩
theorem from_fn (w:World) (n l h:Int):SX.Fn Tryz.prog 103 [I n,I l,I h] w (fun _=>False) fun v N=>v = .bool (inB n l h):=by
 refine walk [] [] (det0_ok _ _) Tryz.func103 rfl Tryz.ntmps103 res103 (by kernel_rfl) no_facts ?_
 simp (config := { maxSteps := 4000000 }) only [↓sxw,sxw,tf103,sxu,sxl,sxm,Int.reduceBEq,Int.reduceBNe,Int.reduceLT,Int.reduceLE,Int.reduceEq,Int.reduceGT,Int.reduceGE,Int.reduceToNat,↓reduceIte,List.reduceReplicate,Nat.reduceAdd,Nat.reduceSub,Nat.reduceMul,Nat.reduceLT,Nat.reduceLeDiff,Nat.reduceBEq,Nat.reduceEqDiff]
 unfold inB
 exact ⟨fun h1=>by simp [h1],fun h1=>by simp [h1]⟩
def detA:Nat → List Value → Option Value
 | 61,[.int .i64 n,.int .i64 l,.int .i64 h]=>some (.bool (inB n l h))
 | 103,[.int .i64 n,.int .i64 l,.int .i64 h]=>some (.bool (inB n l h))
 | _,_=>none
theorem detA_ok (w0:World) (X:Nat → Prop):DetFn Tryz.prog ⟨w0,X⟩ detA:=by
 intro g args v h w hk
 unfold detA at h
 split at h
 ·cases h
  exact det_of_fn (within_fn w _ _ _)
 ·cases h
  exact det_of_fn (from_fn w _ _ _)
 ·cases h
theorem detA_eq:(∀ n l h:Int,detA 61 [I n,I l,I h] = some (.bool (inB n l h))) ∧ (∀ n l h:Int,detA 103 [I n,I l,I h] = some (.bool (inB n l h))):=⟨fun _ _ _=>rfl,fun _ _ _=>rfl⟩
noncomputable def detP {α:Type} (f:α → Value) (g:Nat) (cap:List Value) (p:α → Bool):Nat → List Value → Option Value:=open Classical in fun g' xs=>if h:g' = g ∧ ∃ a,xs = f a :: cap then some (.bool (p h.2.choose)) else none
theorem detP_eq {α:Type} {f:α → Value} (hf:∀ a b,f a = f b → a = b) (g:Nat) (cap:List Value) (p:α → Bool) (a:α):detP f g cap p g (f a :: cap) = some (.bool (p a)):=by
 unfold detP
 have h:g = g ∧ ∃ b,f a :: cap = f b :: cap:=⟨rfl,a,rfl⟩
 rw [dif_pos h]
 have:=h.2.choose_spec
 rw [List.cons.injEq] at this
 rw [← hf _ _ this.1]
def Tells {α:Type} (w:World) (X:Nat → Prop) (f:α → Value) (g:Nat) (cap:List Value) (p:α → Bool):Prop:=
 CallT Tryz.prog g ∧ ∀ w',Keep X w w' → ∀ a,Calls Tryz.prog g (f a :: cap).toArray w' fun e w2=>e = .returned (.bool (p a)) ∧ Keep (fun _=>False) w' w2
theorem detP_ok {α:Type} {f:α → Value} (hf:∀ a b,f a = f b → a = b) {w:World} {X:Nat → Prop} {g:Nat} {cap:List Value} {p:α → Bool} (h:Tells w X f g cap p):DetFn Tryz.prog ⟨w,X⟩ (detP f g cap p):=by
 intro g' xs v hv w' hk
 by_cases hc:g' = g ∧ ∃ a,xs = f a :: cap
 ·obtain ⟨rfl,a,rfl⟩:=hc
  rw [detP_eq hf] at hv
  cases hv
  exact h.2 w' hk a
 ·unfold detP at hv
  rw [dif_neg hc] at hv
  cases hv
def vI (n:Int):Value:=I n
theorem vI_inj (a b:Int) (h:vI a = vI b):a = b:=by cases h; rfl
def spc (p:Int × Int):List Value:=[I p.1,I p.2]
theorem spc_len (p:Int × Int):(spc p).length = 2:=rfl
theorem spc_one (p:Int × Int):∀ y ∈ spc p,y.oneCell' = true:=by simp [spc,Value.oneCell']
def vS (p:Int × Int):Value:=.agg (spc p).toArray
theorem vS_inj (a b:Int × Int) (h:vS a = vS b):a = b:=by
 simp only [vS,spc,Value.agg.injEq] at h
 injection h with h
 simp only [List.cons.injEq,Value.int.injEq,true_and,and_true] at h
 exact Prod.ext h.1 h.2
theorem indexI_fn (w:World) (v:Value) (l:List Int) (g:Nat) (cap:List Value) (p:Int → Bool) (hs:Sl w v 1 (ints l)) (hb:l.length ≤ 1099511627776) (hp:Tells w (fun _=>False) vI g cap p):
  SX.Fn Tryz.prog 155 [v,.func (.func g) [].toArray cap.toArray] w (fun _=>False) fun r N=>∃ n:Int,r = I n ∧ decide (n ≥ 0) = l.any p:=by
 obtain ⟨a,n,c,rfl⟩:=hs.shape
 have hn:=hs.le i1_len (by omega)
 have hr:=hs.rd0
 have hT:=hp.1
 have hd:=fun m=>detP_eq vI_inj g cap p m
 refine walk [] [] (detP_ok vI_inj hp) Tryz.func155 rfl Tryz.ntmps155 res155 (by kernel_rfl) no_facts ?_
 simp (config := { maxSteps := 4000000 }) only [↓sxw,sxw,tf155,sxu,sxl,sxm,Int.reduceBEq,Int.reduceBNe,Int.reduceLT,Int.reduceLE,Int.reduceEq,Int.reduceGT,Int.reduceGE,Int.reduceToNat,↓reduceIte,List.reduceReplicate,Nat.reduceAdd,Nat.reduceSub,Nat.reduceMul,Nat.reduceLT,Nat.reduceLeDiff,Nat.reduceBEq,Nat.reduceEqDiff]
 refine loop_const [(4,5),(8,18)] (fun k:Nat=>[(8,I k)]) (fun k H1=>H1 = [] ∧ k ≤ n ∧ l.any p = (l.drop k).any p) (fun k=>n - k) 0 ?_ ⟨rfl,Nat.zero_le _,rfl⟩ ?_
 ·simp (config := { maxSteps := 4000000 }) only [↓sxw,sxw,tf155,sxu,sxl,sxm,Int.reduceBEq,Int.reduceBNe,Int.reduceLT,Int.reduceLE,Int.reduceEq,Int.reduceGT,Int.reduceGE,Int.reduceToNat,↓reduceIte,List.reduceReplicate,Nat.reduceAdd,Nat.reduceSub,Nat.reduceMul,Nat.reduceLT,Nat.reduceLeDiff,Nat.reduceBEq,Nat.reduceEqDiff]
  try simp
 ·rintro k H1 g1 ⟨rfl,hk,ht⟩
  by_cases hkn:k = n
  ·subst hkn
   have e7:((k:Int) < (k:Int)) = False:=eq_false (by omega)
   simp (config := { maxSteps := 4000000 }) only [↓sxw,sxw,tf155,sxu,sxl,sxm,Int.reduceBEq,Int.reduceBNe,Int.reduceLT,Int.reduceLE,Int.reduceEq,Int.reduceGT,Int.reduceGE,Int.reduceToNat,↓reduceIte,List.reduceReplicate,Nat.reduceAdd,Nat.reduceSub,Nat.reduceMul,Nat.reduceLT,Nat.reduceLeDiff,Nat.reduceBEq,Nat.reduceEqDiff,e7]
   refine ⟨-1,rfl,?_⟩
   rw [ht,List.drop_of_length_le (by omega)]
   try rfl
  ·have e7:((k:Int) < (n:Int)) = True:=eq_true (by omega)
   have e2:wr (k + 1) = ((k + 1:Nat):Int):=(wrap_id (by omega)).trans (by omega)
   have hkl:k < l.length:=by omega
   have hdk:=hd l[k]
   rw [vI] at hdk
   simp (config := { maxSteps := 4000000 }) only [↓sxw,sxw,tf155,sxu,sxl,sxm,Int.reduceBEq,Int.reduceBNe,Int.reduceLT,Int.reduceLE,Int.reduceEq,Int.reduceGT,Int.reduceGE,Int.reduceToNat,↓reduceIte,List.reduceReplicate,Nat.reduceAdd,Nat.reduceSub,Nat.reduceMul,Nat.reduceLT,Nat.reduceLeDiff,Nat.reduceBEq,Nat.reduceEqDiff,e7]
   refine amid (at_1 (hr _) i1_len (List.getElem?_eq_getElem hkl) rfl fun ad=>?_)
   rw [List.drop_eq_getElem_cons hkl,List.any_cons] at ht
   simp (config := { maxSteps := 4000000 }) only [↓sxw,sxw,tf155,sxu,sxl,sxm,Int.reduceBEq,Int.reduceBNe,Int.reduceLT,Int.reduceLE,Int.reduceEq,Int.reduceGT,Int.reduceGE,Int.reduceToNat,↓reduceIte,List.reduceReplicate,Nat.reduceAdd,Nat.reduceSub,Nat.reduceMul,Nat.reduceLT,Nat.reduceLeDiff,Nat.reduceBEq,Nat.reduceEqDiff,e2,hT,hdk]
   refine ⟨fun h1=>⟨k,rfl,?_⟩,fun h1=>⟨k + 1,_,rfl,HImp.refl _ _,⟨rfl,by omega,?_⟩,by omega⟩⟩
   ·rw [ht,h1,Bool.true_or,decide_eq_true_iff]
    omega
   ·rw [ht,h1,Bool.false_or]
theorem indexS_fn (w:World) (v:Value) (l:List (Int × Int)) (g:Nat) (cap:List Value) (p:Int × Int → Bool) (hs:Sl w v 2 (cat spc l)) (hb:l.length ≤ 1099511627776) (hp:Tells w (fun _=>False) vS g cap p):
  SX.Fn Tryz.prog 156 [v,.func (.func g) [].toArray cap.toArray] w (fun _=>False) fun r N=>∃ n:Int,r = I n ∧ decide (n ≥ 0) = l.any p:=by
 obtain ⟨a,n,c,rfl⟩:=hs.shape
 have hn:=hs.le spc_len (by omega)
 have hr:=hs.rd0
 have hT:=hp.1
 have hd:=fun m=>detP_eq vS_inj g cap p m
 refine walk [] [] (detP_ok vS_inj hp) Tryz.func156 rfl Tryz.ntmps156 res156 (by kernel_rfl) no_facts ?_
 simp (config := { maxSteps := 4000000 }) only [↓sxw,sxw,tf156,sxu,sxl,sxm,Int.reduceBEq,Int.reduceBNe,Int.reduceLT,Int.reduceLE,Int.reduceEq,Int.reduceGT,Int.reduceGE,Int.reduceToNat,↓reduceIte,List.reduceReplicate,Nat.reduceAdd,Nat.reduceSub,Nat.reduceMul,Nat.reduceLT,Nat.reduceLeDiff,Nat.reduceBEq,Nat.reduceEqDiff]
 refine loop_const [(4,5),(8,18)] (fun k:Nat=>[(8,I k)]) (fun k H1=>H1 = [] ∧ k ≤ n ∧ l.any p = (l.drop k).any p) (fun k=>n - k) 0 ?_ ⟨rfl,Nat.zero_le _,rfl⟩ ?_
 ·simp (config := { maxSteps := 4000000 }) only [↓sxw,sxw,tf156,sxu,sxl,sxm,Int.reduceBEq,Int.reduceBNe,Int.reduceLT,Int.reduceLE,Int.reduceEq,Int.reduceGT,Int.reduceGE,Int.reduceToNat,↓reduceIte,List.reduceReplicate,Nat.reduceAdd,Nat.reduceSub,Nat.reduceMul,Nat.reduceLT,Nat.reduceLeDiff,Nat.reduceBEq,Nat.reduceEqDiff]
  try simp
 ·rintro k H1 g1 ⟨rfl,hk,ht⟩
  by_cases hkn:k = n
  ·subst hkn
   have e7:((k:Int) < (k:Int)) = False:=eq_false (by omega)
   simp (config := { maxSteps := 4000000 }) only [↓sxw,sxw,tf156,sxu,sxl,sxm,Int.reduceBEq,Int.reduceBNe,Int.reduceLT,Int.reduceLE,Int.reduceEq,Int.reduceGT,Int.reduceGE,Int.reduceToNat,↓reduceIte,List.reduceReplicate,Nat.reduceAdd,Nat.reduceSub,Nat.reduceMul,Nat.reduceLT,Nat.reduceLeDiff,Nat.reduceBEq,Nat.reduceEqDiff,e7]
   refine ⟨-1,rfl,?_⟩
   rw [ht,List.drop_of_length_le (by omega)]
   try rfl
  ·have e7:((k:Int) < (n:Int)) = True:=eq_true (by omega)
   have e2:wr (k + 1) = ((k + 1:Nat):Int):=(wrap_id (by omega)).trans (by omega)
   have hkl:k < l.length:=by omega
   have hdk:=hd l[k]
   rw [vS] at hdk
   simp (config := { maxSteps := 4000000 }) only [↓sxw,sxw,tf156,sxu,sxl,sxm,Int.reduceBEq,Int.reduceBNe,Int.reduceLT,Int.reduceLE,Int.reduceEq,Int.reduceGT,Int.reduceGE,Int.reduceToNat,↓reduceIte,List.reduceReplicate,Nat.reduceAdd,Nat.reduceSub,Nat.reduceMul,Nat.reduceLT,Nat.reduceLeDiff,Nat.reduceBEq,Nat.reduceEqDiff,e7]
   refine amid (at_n (hr _) spc_len (by omega) (List.getElem?_eq_getElem hkl) fun ad=>?_)
   rw [List.drop_eq_getElem_cons hkl,List.any_cons] at ht
   simp (config := { maxSteps := 4000000 }) only [↓sxw,sxw,tf156,sxu,sxl,sxm,Int.reduceBEq,Int.reduceBNe,Int.reduceLT,Int.reduceLE,Int.reduceEq,Int.reduceGT,Int.reduceGE,Int.reduceToNat,↓reduceIte,List.reduceReplicate,Nat.reduceAdd,Nat.reduceSub,Nat.reduceMul,Nat.reduceLT,Nat.reduceLeDiff,Nat.reduceBEq,Nat.reduceEqDiff,e2,hT,hdk]
   refine ⟨fun h1=>⟨k,rfl,?_⟩,fun h1=>⟨k + 1,_,rfl,HImp.refl _ _,⟨rfl,by omega,?_⟩,by omega⟩⟩
   ·rw [ht,h1,Bool.true_or,decide_eq_true_iff]
    omega
   ·rw [ht,h1,Bool.false_or]
theorem containsI_fn (w:World) (v:Value) (l:List Int) (g:Nat) (cap:List Value) (p:Int → Bool) (hs:Sl w v 1 (ints l)) (hb:l.length ≤ 1099511627776) (hp:Tells w (fun _=>False) vI g cap p):
  SX.Fn Tryz.prog 114 [v,.func (.func g) [].toArray cap.toArray] w (fun _=>False) fun r N=>r = .bool (l.any p):=by
 obtain ⟨a,n,c,rfl⟩:=hs.shape
 refine walk [] [] (det0_ok _ _) Tryz.func114 rfl Tryz.ntmps114 res114 (by kernel_rfl) no_facts ?_
 simp (config := { maxSteps := 4000000 }) only [↓sxw,sxw,tf114,sxu,sxl,sxm,Int.reduceBEq,Int.reduceBNe,Int.reduceLT,Int.reduceLE,Int.reduceEq,Int.reduceGT,Int.reduceGE,Int.reduceToNat,↓reduceIte,List.reduceReplicate,Nat.reduceAdd,Nat.reduceSub,Nat.reduceMul,Nat.reduceLT,Nat.reduceLeDiff,Nat.reduceBEq,Nat.reduceEqDiff,det0]
 refine CallOb.pure (fun w' hp'=>indexI_fn w' _ l g cap p (hs.hp (fun _ _=>id) hp') hb ⟨hp.1,fun w2 hk=>hp.2 w2 (hk.into hp'.ext fun _ h=>h.elim)⟩) ?_
 rintro r N ⟨m,rfl,hm⟩
 rw [← hm]
 simp (config := { maxSteps := 4000000 }) only [↓sxw,sxw,tf114,sxu,sxl,sxm,Int.reduceBEq,Int.reduceBNe,Int.reduceLT,Int.reduceLE,Int.reduceEq,Int.reduceGT,Int.reduceGE,Int.reduceToNat,↓reduceIte,List.reduceReplicate,Nat.reduceAdd,Nat.reduceSub,Nat.reduceMul,Nat.reduceLT,Nat.reduceLeDiff,Nat.reduceBEq,Nat.reduceEqDiff]
theorem containsS_fn (w:World) (v:Value) (l:List (Int × Int)) (g:Nat) (cap:List Value) (p:Int × Int → Bool) (hs:Sl w v 2 (cat spc l)) (hb:l.length ≤ 1099511627776) (hp:Tells w (fun _=>False) vS g cap p):
  SX.Fn Tryz.prog 115 [v,.func (.func g) [].toArray cap.toArray] w (fun _=>False) fun r N=>r = .bool (l.any p):=by
 obtain ⟨a,n,c,rfl⟩:=hs.shape
 refine walk [] [] (det0_ok _ _) Tryz.func115 rfl Tryz.ntmps115 res115 (by kernel_rfl) no_facts ?_
 simp (config := { maxSteps := 4000000 }) only [↓sxw,sxw,tf115,sxu,sxl,sxm,Int.reduceBEq,Int.reduceBNe,Int.reduceLT,Int.reduceLE,Int.reduceEq,Int.reduceGT,Int.reduceGE,Int.reduceToNat,↓reduceIte,List.reduceReplicate,Nat.reduceAdd,Nat.reduceSub,Nat.reduceMul,Nat.reduceLT,Nat.reduceLeDiff,Nat.reduceBEq,Nat.reduceEqDiff,det0]
 refine CallOb.pure (fun w' hp'=>indexS_fn w' _ l g cap p (hs.hp (fun _ _=>id) hp') hb ⟨hp.1,fun w2 hk=>hp.2 w2 (hk.into hp'.ext fun _ h=>h.elim)⟩) ?_
 rintro r N ⟨m,rfl,hm⟩
 rw [← hm]
 simp (config := { maxSteps := 4000000 }) only [↓sxw,sxw,tf115,sxu,sxl,sxm,Int.reduceBEq,Int.reduceBNe,Int.reduceLT,Int.reduceLE,Int.reduceEq,Int.reduceGT,Int.reduceGE,Int.reduceToNat,↓reduceIte,List.reduceReplicate,Nat.reduceAdd,Nat.reduceSub,Nat.reduceMul,Nat.reduceLT,Nat.reduceLeDiff,Nat.reduceBEq,Nat.reduceEqDiff]
structure Cht where
 wide:Int
 high:Int
 depth:List Int
 tide:List (Int × Int)
 swell:List Int
def ChOk (w:World) (v:Value) (c:Cht):Prop:=∃ sD sT sS,v = .agg #[I c.wide,I c.high,sD,sT,sS] ∧ Sl w sD 1 (ints c.depth) ∧ Sl w sT 2 (cat spc c.tide) ∧ Sl w sS 1 (ints c.swell)
def Cht.ok (c:Cht):Prop:=(1 ≤ c.wide ∧ c.wide ≤ 12) ∧ (1 ≤ c.high ∧ c.high ≤ 12) ∧ (c.depth.length:Int) = c.wide * c.high ∧ (1 ≤ c.tide.length ∧ c.tide.length ≤ 60) ∧ c.swell.length = c.tide.length ∧
 (∀ d ∈ c.depth,-1000 ≤ d ∧ d ≤ 1000) ∧ (∀ t ∈ c.tide,0 ≤ t.1 ∧ t.1 ≤ t.2 ∧ t.2 ≤ 200) ∧ ∀ s ∈ c.swell,0 ≤ s ∧ s ≤ 100
noncomputable def Cht.okB (c:Cht):Bool:=open Classical in decide c.ok
theorem okB_iff (c:Cht):c.okB = true ↔ c.ok:=by unfold Cht.okB; simp
def Cht.small (c:Cht):Prop:=c.depth.length ≤ 200 ∧ c.tide.length ≤ 100 ∧ c.swell.length ≤ 100
theorem deep_fn (w:World) (n:Int):SX.Fn Tryz.prog 111 [I n] w (fun _=>False) fun v N=>v = .bool (!inB n (-1000) 1000):=by
 refine walk [] [] (detA_ok _ _) Tryz.func111 rfl Tryz.ntmps111 res111 (by kernel_rfl) no_facts ?_
 simp (config := { maxSteps := 4000000 }) only [↓sxw,sxw,tf111,sxu,sxl,sxm,Int.reduceBEq,Int.reduceBNe,Int.reduceLT,Int.reduceLE,Int.reduceEq,Int.reduceGT,Int.reduceGE,Int.reduceToNat,↓reduceIte,List.reduceReplicate,Nat.reduceAdd,Nat.reduceSub,Nat.reduceMul,Nat.reduceLT,Nat.reduceLeDiff,Nat.reduceBEq,Nat.reduceEqDiff,detA_eq]
theorem swellB_fn (w:World) (n:Int):SX.Fn Tryz.prog 113 [I n] w (fun _=>False) fun v N=>v = .bool (!inB n 0 100):=by
 refine walk [] [] (detA_ok _ _) Tryz.func113 rfl Tryz.ntmps113 res113 (by kernel_rfl) no_facts ?_
 simp (config := { maxSteps := 4000000 }) only [↓sxw,sxw,tf113,sxu,sxl,sxm,Int.reduceBEq,Int.reduceBNe,Int.reduceLT,Int.reduceLE,Int.reduceEq,Int.reduceGT,Int.reduceGE,Int.reduceToNat,↓reduceIte,List.reduceReplicate,Nat.reduceAdd,Nat.reduceSub,Nat.reduceMul,Nat.reduceLT,Nat.reduceLeDiff,Nat.reduceBEq,Nat.reduceEqDiff,detA_eq]
def badTide (p:Int × Int):Bool:=decide (p.1 < 0) || decide (p.1 > p.2) || decide (p.2 > 200)
theorem tideB_fn (w:World) (p:Int × Int):SX.Fn Tryz.prog 112 [vS p] w (fun _=>False) fun v N=>v = .bool (badTide p):=by
 unfold vS spc
 refine walk [] [] (detA_ok _ _) Tryz.func112 rfl Tryz.ntmps112 res112 (by kernel_rfl) no_facts ?_
 simp (config := { maxSteps := 4000000 }) only [↓sxw,sxw,tf112,sxu,sxl,sxm,Int.reduceBEq,Int.reduceBNe,Int.reduceLT,Int.reduceLE,Int.reduceEq,Int.reduceGT,Int.reduceGE,Int.reduceToNat,↓reduceIte,List.reduceReplicate,Nat.reduceAdd,Nat.reduceSub,Nat.reduceMul,Nat.reduceLT,Nat.reduceLeDiff,Nat.reduceBEq,Nat.reduceEqDiff,detA_eq]
 unfold badTide
 by_cases h1:p.1 < 0 <;> by_cases h2:p.1 > p.2 <;> simp [h1,h2]
end Go.Proofs.YtljpknnhimkkjaaGreatDoor

namespace Go.Proofs.YtljpknnhimkkjaaGreatDoor
open Go.RowKit Go.SX
set_option maxRecDepth 4000
set_option maxHeartbeats 4000000
set_option linter.unusedSimpArgs false
set_option linter.unusedVariables false
theorem mul_bd0 {a b A B:Int} (h1:0 ≤ a) (h2:a ≤ A) (h3:0 ≤ b) (h4:b ≤ B):0 ≤ a * b ∧ a * b ≤ A * B:=
 ⟨Int.mul_nonneg h1 h3,Int.mul_le_mul h2 h4 h3 (Int.le_trans h1 h2)⟩
theorem tells_deep (w:World):Tells w (fun _=>False) vI 111 [] (fun n=>!inB n (-1000) 1000):=⟨Tryz.call111,fun w' _ a=>det_of_fn (deep_fn w' a)⟩
theorem tells_swell (w:World):Tells w (fun _=>False) vI 113 [] (fun n=>!inB n 0 100):=⟨Tryz.call113,fun w' _ a=>det_of_fn (swellB_fn w' a)⟩
theorem tells_tide (w:World):Tells w (fun _=>False) vS 112 [] badTide:=⟨Tryz.call112,fun w' _ a=>det_of_fn (tideB_fn w' a)⟩
theorem detA_none:(∀ xs,detA 114 xs = none) ∧ (∀ xs,detA 115 xs = none):=⟨fun _=>rfl,fun _=>rfl⟩
theorem ok_of {c:Cht} (h1:inB c.wide 1 12 = true) (h2:inB c.high 1 12 = true) (h3:(c.depth.length:Int) = c.wide * c.high) (h4:inB c.tide.length 1 60 = true) (h5:(c.swell.length:Int) = c.tide.length):
  c.ok ↔ (c.depth.any fun n=>!inB n (-1000) 1000) = false ∧ c.tide.any badTide = false ∧ (c.swell.any fun n=>!inB n 0 100) = false:=by
 rw [inB_iff] at h1 h2 h4
 simp only [List.any_eq_false,Bool.not_eq_true',Bool.not_eq_false,inB_iff,badTide,Bool.or_eq_true,decide_eq_true_eq,not_or]
 constructor
 ·intro h
  refine ⟨fun d hd=>?_,fun t ht=>?_,fun s hs=>?_⟩
  ·have:=h.2.2.2.2.2.1 d hd
   omega
  ·have:=h.2.2.2.2.2.2.1 t ht
   omega
  ·have:=h.2.2.2.2.2.2.2 s hs
   omega
 ·rintro ⟨a,b,d⟩
  refine ⟨h1,h2,h3,by omega,by omega,fun x hx=>?_,fun t ht=>?_,fun s hs=>?_⟩
  ·have:=a x hx
   omega
  ·have:=b t ht
   omega
  ·have:=d s hs
   omega
theorem check_fn (w:World) (v:Value) (c:Cht) (hc:ChOk w v c) (hsm:c.small):SX.Fn Tryz.prog 60 [v] w (fun _=>False) fun r N=>r = I (if c.okB then 0 else 10):=by
 obtain ⟨sD,sT,sS,rfl,hD,hT,hS⟩:=hc
 obtain ⟨aD,nD,cD,rfl⟩:=hD.shape
 obtain ⟨aT,nT,cT,rfl⟩:=hT.shape
 obtain ⟨aS,nS,cS,rfl⟩:=hS.shape
 have hnD:=hD.le i1_len (by omega)
 have hnT:=hT.le spc_len (by omega)
 have hnS:=hS.le i1_len (by omega)
 subst hnD hnT hnS
 have hsm':=hsm
 unfold Cht.small at hsm'
 refine walk [] [] (detA_ok _ _) Tryz.func60 rfl Tryz.ntmps60 res60 (by kernel_rfl) no_facts ?_
 have bad:¬ c.ok → c.okB = false:=fun h=>by
  cases hb:c.okB with
  | false=>rfl
  | true=>exact absurd ((okB_iff c).1 hb) h
 cases h1:inB c.wide 1 12 with
 | false=>
  have hb:=bad fun h=>by have:=h.1; rw [← inB_iff,h1] at this; cases this
  simp (config := { maxSteps := 4000000 }) only [↓sxw,sxw,tf60,sxu,sxl,sxm,Int.reduceBEq,Int.reduceBNe,Int.reduceLT,Int.reduceLE,Int.reduceEq,Int.reduceGT,Int.reduceGE,Int.reduceToNat,↓reduceIte,List.reduceReplicate,Nat.reduceAdd,Nat.reduceSub,Nat.reduceMul,Nat.reduceLT,Nat.reduceLeDiff,Nat.reduceBEq,Nat.reduceEqDiff,detA_eq,h1,hb]
 | true=>
 cases h2:inB c.high 1 12 with
 | false=>
  have hb:=bad fun h=>by have:=h.2.1; rw [← inB_iff,h2] at this; cases this
  simp (config := { maxSteps := 4000000 }) only [↓sxw,sxw,tf60,sxu,sxl,sxm,Int.reduceBEq,Int.reduceBNe,Int.reduceLT,Int.reduceLE,Int.reduceEq,Int.reduceGT,Int.reduceGE,Int.reduceToNat,↓reduceIte,List.reduceReplicate,Nat.reduceAdd,Nat.reduceSub,Nat.reduceMul,Nat.reduceLT,Nat.reduceLeDiff,Nat.reduceBEq,Nat.reduceEqDiff,detA_eq,h1,h2,hb]
 | true=>
 have b1:=(inB_iff _ _ _).1 h1
 have b2:=(inB_iff _ _ _).1 h2
 have b3:=mul_bd0 (show 0 ≤ c.wide by omega) b1.2 (show 0 ≤ c.high by omega) b2.2
 have e1:wr (c.wide * c.high) = c.wide * c.high:=wrap_id (by omega)
 by_cases h3:(c.depth.length:Int) = c.wide * c.high
 case neg=>
  have hb:=bad fun h=>h3 h.2.2.1
  have e2:((c.depth.length:Int) = c.wide * c.high) = False:=eq_false h3
  simp (config := { maxSteps := 4000000 }) only [↓sxw,sxw,tf60,sxu,sxl,sxm,Int.reduceBEq,Int.reduceBNe,Int.reduceLT,Int.reduceLE,Int.reduceEq,Int.reduceGT,Int.reduceGE,Int.reduceToNat,↓reduceIte,List.reduceReplicate,Nat.reduceAdd,Nat.reduceSub,Nat.reduceMul,Nat.reduceLT,Nat.reduceLeDiff,Nat.reduceBEq,Nat.reduceEqDiff,detA_eq,h1,h2,e1,e2,hb]
 have e2:((c.depth.length:Int) = c.wide * c.high) = True:=eq_true h3
 cases h4:inB c.tide.length 1 60 with
 | false=>
  have hb:=bad fun h=>by
   have h5:inB c.tide.length 1 60 = true:=(inB_iff _ _ _).2 (by have:=h.2.2.2.1; omega)
   rw [h4] at h5; cases h5
  simp (config := { maxSteps := 4000000 }) only [↓sxw,sxw,tf60,sxu,sxl,sxm,Int.reduceBEq,Int.reduceBNe,Int.reduceLT,Int.reduceLE,Int.reduceEq,Int.reduceGT,Int.reduceGE,Int.reduceToNat,↓reduceIte,List.reduceReplicate,Nat.reduceAdd,Nat.reduceSub,Nat.reduceMul,Nat.reduceLT,Nat.reduceLeDiff,Nat.reduceBEq,Nat.reduceEqDiff,detA_eq,h1,h2,e1,e2,h4,hb]
 | true=>
 by_cases h5:(c.swell.length:Int) = c.tide.length
 case neg=>
  have hb:=bad fun h=>h5 (by have:=h.2.2.2.2.1; omega)
  have e3:((c.swell.length:Int) = (c.tide.length:Int)) = False:=eq_false h5
  simp (config := { maxSteps := 4000000 }) only [↓sxw,sxw,tf60,sxu,sxl,sxm,Int.reduceBEq,Int.reduceBNe,Int.reduceLT,Int.reduceLE,Int.reduceEq,Int.reduceGT,Int.reduceGE,Int.reduceToNat,↓reduceIte,List.reduceReplicate,Nat.reduceAdd,Nat.reduceSub,Nat.reduceMul,Nat.reduceLT,Nat.reduceLeDiff,Nat.reduceBEq,Nat.reduceEqDiff,detA_eq,h1,h2,e1,e2,h4,e3,hb]
 have e3:((c.swell.length:Int) = (c.tide.length:Int)) = True:=eq_true h5
 have hok:=ok_of h1 h2 h3 h4 h5
 simp (config := { maxSteps := 4000000 }) only [↓sxw,sxw,tf60,sxu,sxl,sxm,Int.reduceBEq,Int.reduceBNe,Int.reduceLT,Int.reduceLE,Int.reduceEq,Int.reduceGT,Int.reduceGE,Int.reduceToNat,↓reduceIte,List.reduceReplicate,Nat.reduceAdd,Nat.reduceSub,Nat.reduceMul,Nat.reduceLT,Nat.reduceLeDiff,Nat.reduceBEq,Nat.reduceEqDiff,detA_eq,h1,h2,e1,e2,h4,e3,detA_none]
 refine CallOb.pure (fun w' hp=>containsI_fn w' _ c.depth _ [] _ (hD.hp (fun _ _=>id) hp) (by omega) (tells_deep w')) ?_
 rintro r N rfl
 cases h6:(c.depth.any fun n=>!inB n (-1000) 1000) with
 | true=>
  have hb:=bad fun h=>by have:=(hok.1 h).1; rw [h6] at this; cases this
  simp (config := { maxSteps := 4000000 }) only [↓sxw,sxw,tf60,sxu,sxl,sxm,Int.reduceBEq,Int.reduceBNe,Int.reduceLT,Int.reduceLE,Int.reduceEq,Int.reduceGT,Int.reduceGE,Int.reduceToNat,↓reduceIte,List.reduceReplicate,Nat.reduceAdd,Nat.reduceSub,Nat.reduceMul,Nat.reduceLT,Nat.reduceLeDiff,Nat.reduceBEq,Nat.reduceEqDiff,hb]
 | false=>
 simp (config := { maxSteps := 4000000 }) only [↓sxw,sxw,tf60,sxu,sxl,sxm,Int.reduceBEq,Int.reduceBNe,Int.reduceLT,Int.reduceLE,Int.reduceEq,Int.reduceGT,Int.reduceGE,Int.reduceToNat,↓reduceIte,List.reduceReplicate,Nat.reduceAdd,Nat.reduceSub,Nat.reduceMul,Nat.reduceLT,Nat.reduceLeDiff,Nat.reduceBEq,Nat.reduceEqDiff,detA_none]
 refine CallOb.pure (fun w' hp=>containsS_fn w' _ c.tide _ [] _ (hT.hp (fun _ _=>id) hp) (by omega) (tells_tide w')) ?_
 rintro r N2 rfl
 cases h7:c.tide.any badTide with
 | true=>
  have hb:=bad fun h=>by have:=(hok.1 h).2.1; rw [h7] at this; cases this
  simp (config := { maxSteps := 4000000 }) only [↓sxw,sxw,tf60,sxu,sxl,sxm,Int.reduceBEq,Int.reduceBNe,Int.reduceLT,Int.reduceLE,Int.reduceEq,Int.reduceGT,Int.reduceGE,Int.reduceToNat,↓reduceIte,List.reduceReplicate,Nat.reduceAdd,Nat.reduceSub,Nat.reduceMul,Nat.reduceLT,Nat.reduceLeDiff,Nat.reduceBEq,Nat.reduceEqDiff,hb]
 | false=>
 simp (config := { maxSteps := 4000000 }) only [↓sxw,sxw,tf60,sxu,sxl,sxm,Int.reduceBEq,Int.reduceBNe,Int.reduceLT,Int.reduceLE,Int.reduceEq,Int.reduceGT,Int.reduceGE,Int.reduceToNat,↓reduceIte,List.reduceReplicate,Nat.reduceAdd,Nat.reduceSub,Nat.reduceMul,Nat.reduceLT,Nat.reduceLeDiff,Nat.reduceBEq,Nat.reduceEqDiff,detA_none]
 refine CallOb.pure (fun w' hp=>containsI_fn w' _ c.swell _ [] _ (hS.hp (fun _ _=>id) hp) (by omega) (tells_swell w')) ?_
 rintro r N3 rfl
 cases h8:(c.swell.any fun n=>!inB n 0 100) with
 | true=>
  have hb:=bad fun h=>by have:=(hok.1 h).2.2; rw [h8] at this; cases this
  simp (config := { maxSteps := 4000000 }) only [↓sxw,sxw,tf60,sxu,sxl,sxm,Int.reduceBEq,Int.reduceBNe,Int.reduceLT,Int.reduceLE,Int.reduceEq,Int.reduceGT,Int.reduceGE,Int.reduceToNat,↓reduceIte,List.reduceReplicate,Nat.reduceAdd,Nat.reduceSub,Nat.reduceMul,Nat.reduceLT,Nat.reduceLeDiff,Nat.reduceBEq,Nat.reduceEqDiff,hb]
 | false=>
 have hb:c.okB = true:=(okB_iff c).2 (hok.2 ⟨h6,h7,h8⟩)
 simp (config := { maxSteps := 4000000 }) only [↓sxw,sxw,tf60,sxu,sxl,sxm,Int.reduceBEq,Int.reduceBNe,Int.reduceLT,Int.reduceLE,Int.reduceEq,Int.reduceGT,Int.reduceGE,Int.reduceToNat,↓reduceIte,List.reduceReplicate,Nat.reduceAdd,Nat.reduceSub,Nat.reduceMul,Nat.reduceLT,Nat.reduceLeDiff,Nat.reduceBEq,Nat.reduceEqDiff,hb]
theorem rcheck_fn (w:World) (v:Value) (c:Cht) (hc:ChOk w v c) (hsm:c.small):SX.Fn Tryz.prog 49 [v] w (fun _=>False) fun r N=>r = I (if c.okB then 0 else 10):=by
 obtain ⟨sD,sT,sS,rfl,hD,hT,hS⟩:=hc
 obtain ⟨aD,nD,cD,rfl⟩:=hD.shape
 obtain ⟨aT,nT,cT,rfl⟩:=hT.shape
 obtain ⟨aS,nS,cS,rfl⟩:=hS.shape
 have hnD:=hD.le i1_len (by omega)
 have hnT:=hT.le spc_len (by omega)
 have hnS:=hS.le i1_len (by omega)
 subst hnD hnT hnS
 have hrD:=hD.rd0
 have hrT:=hT.rd0
 have hrS:=hS.rd0
 have hsm':=hsm
 unfold Cht.small at hsm'
 refine walk [] [] (detA_ok _ _) Tryz.func49 rfl Tryz.ntmps49 res49 (by kernel_rfl) no_facts ?_
 have bad:¬ c.ok → c.okB = false:=fun h=>by
  cases hb:c.okB with
  | false=>rfl
  | true=>exact absurd ((okB_iff c).1 hb) h
 cases h1:inB c.wide 1 12 with
 | false=>
  have hb:=bad fun h=>by have:=h.1; rw [← inB_iff,h1] at this; cases this
  simp (config := { maxSteps := 4000000 }) only [↓sxw,sxw,tf49,sxu,sxl,sxm,Int.reduceBEq,Int.reduceBNe,Int.reduceLT,Int.reduceLE,Int.reduceEq,Int.reduceGT,Int.reduceGE,Int.reduceToNat,↓reduceIte,List.reduceReplicate,Nat.reduceAdd,Nat.reduceSub,Nat.reduceMul,Nat.reduceLT,Nat.reduceLeDiff,Nat.reduceBEq,Nat.reduceEqDiff,detA_eq,h1,hb]
 | true=>
 cases h2:inB c.high 1 12 with
 | false=>
  have hb:=bad fun h=>by have:=h.2.1; rw [← inB_iff,h2] at this; cases this
  simp (config := { maxSteps := 4000000 }) only [↓sxw,sxw,tf49,sxu,sxl,sxm,Int.reduceBEq,Int.reduceBNe,Int.reduceLT,Int.reduceLE,Int.reduceEq,Int.reduceGT,Int.reduceGE,Int.reduceToNat,↓reduceIte,List.reduceReplicate,Nat.reduceAdd,Nat.reduceSub,Nat.reduceMul,Nat.reduceLT,Nat.reduceLeDiff,Nat.reduceBEq,Nat.reduceEqDiff,detA_eq,h1,h2,hb]
 | true=>
 have b1:=(inB_iff _ _ _).1 h1
 have b2:=(inB_iff _ _ _).1 h2
 have b3:=mul_bd0 (show 0 ≤ c.wide by omega) b1.2 (show 0 ≤ c.high by omega) b2.2
 have e1:wr (c.wide * c.high) = c.wide * c.high:=wrap_id (by omega)
 by_cases h3:(c.depth.length:Int) = c.wide * c.high
 case neg=>
  have hb:=bad fun h=>h3 h.2.2.1
  have e2:((c.depth.length:Int) = c.wide * c.high) = False:=eq_false h3
  simp (config := { maxSteps := 4000000 }) only [↓sxw,sxw,tf49,sxu,sxl,sxm,Int.reduceBEq,Int.reduceBNe,Int.reduceLT,Int.reduceLE,Int.reduceEq,Int.reduceGT,Int.reduceGE,Int.reduceToNat,↓reduceIte,List.reduceReplicate,Nat.reduceAdd,Nat.reduceSub,Nat.reduceMul,Nat.reduceLT,Nat.reduceLeDiff,Nat.reduceBEq,Nat.reduceEqDiff,detA_eq,h1,h2,e1,e2,hb]
 have e2:((c.depth.length:Int) = c.wide * c.high) = True:=eq_true h3
 cases h4:inB c.tide.length 1 60 with
 | false=>
  have hb:=bad fun h=>by
   have h5:inB c.tide.length 1 60 = true:=(inB_iff _ _ _).2 (by have:=h.2.2.2.1; omega)
   rw [h4] at h5; cases h5
  simp (config := { maxSteps := 4000000 }) only [↓sxw,sxw,tf49,sxu,sxl,sxm,Int.reduceBEq,Int.reduceBNe,Int.reduceLT,Int.reduceLE,Int.reduceEq,Int.reduceGT,Int.reduceGE,Int.reduceToNat,↓reduceIte,List.reduceReplicate,Nat.reduceAdd,Nat.reduceSub,Nat.reduceMul,Nat.reduceLT,Nat.reduceLeDiff,Nat.reduceBEq,Nat.reduceEqDiff,detA_eq,h1,h2,e1,e2,h4,hb]
 | true=>
 by_cases h5:(c.swell.length:Int) = c.tide.length
 case neg=>
  have hb:=bad fun h=>h5 (by have:=h.2.2.2.2.1; omega)
  have e3:((c.swell.length:Int) = (c.tide.length:Int)) = False:=eq_false h5
  simp (config := { maxSteps := 4000000 }) only [↓sxw,sxw,tf49,sxu,sxl,sxm,Int.reduceBEq,Int.reduceBNe,Int.reduceLT,Int.reduceLE,Int.reduceEq,Int.reduceGT,Int.reduceGE,Int.reduceToNat,↓reduceIte,List.reduceReplicate,Nat.reduceAdd,Nat.reduceSub,Nat.reduceMul,Nat.reduceLT,Nat.reduceLeDiff,Nat.reduceBEq,Nat.reduceEqDiff,detA_eq,h1,h2,e1,e2,h4,e3,hb]
 have e3:((c.swell.length:Int) = (c.tide.length:Int)) = True:=eq_true h5
 have h5':c.swell.length = c.tide.length:=by omega
 have hok:=ok_of h1 h2 h3 h4 h5
 simp (config := { maxSteps := 4000000 }) only [↓sxw,sxw,tf49,sxu,sxl,sxm,Int.reduceBEq,Int.reduceBNe,Int.reduceLT,Int.reduceLE,Int.reduceEq,Int.reduceGT,Int.reduceGE,Int.reduceToNat,↓reduceIte,List.reduceReplicate,Nat.reduceAdd,Nat.reduceSub,Nat.reduceMul,Nat.reduceLT,Nat.reduceLeDiff,Nat.reduceBEq,Nat.reduceEqDiff,detA_eq,h1,h2,e1,e2,h4,e3,detA_none]
 refine loop_const [(2,3),(42,55)] (fun k:Nat=>[(3,I k)]) (fun k H1=>H1 = [] ∧ k ≤ c.depth.length ∧ ∀ x ∈ c.depth.take k,inB x (-1000) 1000 = true) (fun k=>c.depth.length - k) 0 ?_ ⟨rfl,Nat.zero_le _,by simp⟩ ?_
 ·simp (config := { maxSteps := 4000000 }) only [↓sxw,sxw,tf49,sxu,sxl,sxm,Int.reduceBEq,Int.reduceBNe,Int.reduceLT,Int.reduceLE,Int.reduceEq,Int.reduceGT,Int.reduceGE,Int.reduceToNat,↓reduceIte,List.reduceReplicate,Nat.reduceAdd,Nat.reduceSub,Nat.reduceMul,Nat.reduceLT,Nat.reduceLeDiff,Nat.reduceBEq,Nat.reduceEqDiff]
  try simp
 ·rintro k H1 g1 ⟨rfl,hk,ht⟩
  by_cases hkn:k = c.depth.length
  ·subst hkn
   rw [List.take_of_length_le (Nat.le_refl _)] at ht
   have h6:(c.depth.any fun n=>!inB n (-1000) 1000) = false:=by
    rw [List.any_eq_false]
    intro x hx
    rw [ht x hx]
    try simp
   have e7:((c.depth.length:Int) < (c.depth.length:Int)) = False:=eq_false (by omega)
   simp (config := { maxSteps := 4000000 }) only [↓sxw,sxw,tf49,sxu,sxl,sxm,Int.reduceBEq,Int.reduceBNe,Int.reduceLT,Int.reduceLE,Int.reduceEq,Int.reduceGT,Int.reduceGE,Int.reduceToNat,↓reduceIte,List.reduceReplicate,Nat.reduceAdd,Nat.reduceSub,Nat.reduceMul,Nat.reduceLT,Nat.reduceLeDiff,Nat.reduceBEq,Nat.reduceEqDiff,e7]
   refine loop_const [(2,2),(4,4),(56,94)] (fun k:Nat=>[(4,I k)]) (fun k H1=>H1 = [] ∧ k ≤ c.tide.length ∧ (∀ x ∈ c.tide.take k,badTide x = false) ∧ ∀ x ∈ c.swell.take k,inB x 0 100 = true) (fun k=>c.tide.length - k) 0 ?_ ⟨rfl,Nat.zero_le _,by simp,by simp⟩ ?_
   ·simp (config := { maxSteps := 4000000 }) only [↓sxw,sxw,tf49,sxu,sxl,sxm,Int.reduceBEq,Int.reduceBNe,Int.reduceLT,Int.reduceLE,Int.reduceEq,Int.reduceGT,Int.reduceGE,Int.reduceToNat,↓reduceIte,List.reduceReplicate,Nat.reduceAdd,Nat.reduceSub,Nat.reduceMul,Nat.reduceLT,Nat.reduceLeDiff,Nat.reduceBEq,Nat.reduceEqDiff]
    try simp
   ·rintro k H1 g2 ⟨rfl,hk,ht1,ht2⟩
    by_cases hkn:k = c.tide.length
    ·subst hkn
     rw [List.take_of_length_le (Nat.le_refl _)] at ht1
     rw [List.take_of_length_le (by omega)] at ht2
     have h7:c.tide.any badTide = false:=by
      rw [List.any_eq_false]
      intro x hx
      rw [ht1 x hx]
      try simp
     have h8:(c.swell.any fun n=>!inB n 0 100) = false:=by
      rw [List.any_eq_false]
      intro x hx
      rw [ht2 x hx]
      try simp
     have hb:c.okB = true:=(okB_iff c).2 (hok.2 ⟨h6,h7,h8⟩)
     have e8:((c.tide.length:Int) < (c.tide.length:Int)) = False:=eq_false (by omega)
     simp (config := { maxSteps := 4000000 }) only [↓sxw,sxw,tf49,sxu,sxl,sxm,Int.reduceBEq,Int.reduceBNe,Int.reduceLT,Int.reduceLE,Int.reduceEq,Int.reduceGT,Int.reduceGE,Int.reduceToNat,↓reduceIte,List.reduceReplicate,Nat.reduceAdd,Nat.reduceSub,Nat.reduceMul,Nat.reduceLT,Nat.reduceLeDiff,Nat.reduceBEq,Nat.reduceEqDiff,e8,hb]
    ·have hkl:k < c.tide.length:=by omega
     have hks:k < c.swell.length:=by omega
     have e8:((k:Int) < (c.tide.length:Int)) = True:=eq_true (by omega)
     have e9:wr ((k:Int) + 1) = ((k + 1:Nat):Int):=(wrap_id (by omega)).trans (by omega)
     simp (config := { maxSteps := 4000000 }) only [↓sxw,sxw,tf49,sxu,sxl,sxm,Int.reduceBEq,Int.reduceBNe,Int.reduceLT,Int.reduceLE,Int.reduceEq,Int.reduceGT,Int.reduceGE,Int.reduceToNat,↓reduceIte,List.reduceReplicate,Nat.reduceAdd,Nat.reduceSub,Nat.reduceMul,Nat.reduceLT,Nat.reduceLeDiff,Nat.reduceBEq,Nat.reduceEqDiff,e8]
     refine amid (at_f (hrT _) spc_len (List.getElem?_eq_getElem hkl) (o:=0) (x:=I c.tide[k].1) rfl fun ad1=>?_)
     simp (config := { maxSteps := 4000000 }) only [↓sxw,sxw,tf49,sxu,sxl,sxm,Int.reduceBEq,Int.reduceBNe,Int.reduceLT,Int.reduceLE,Int.reduceEq,Int.reduceGT,Int.reduceGE,Int.reduceToNat,↓reduceIte,List.reduceReplicate,Nat.reduceAdd,Nat.reduceSub,Nat.reduceMul,Nat.reduceLT,Nat.reduceLeDiff,Nat.reduceBEq,Nat.reduceEqDiff,e8]
     refine amid (at_f (hrT _) spc_len (List.getElem?_eq_getElem hkl) (o:=1) (x:=I c.tide[k].2) rfl fun ad2=>?_)
     cases h9:inB c.tide[k].1 0 c.tide[k].2 with
     | false=>
      have hb:=bad fun h=>by
       have:=h.2.2.2.2.2.2.1 _ (List.getElem_mem hkl)
       have h10:=(inB_iff c.tide[k].1 0 c.tide[k].2).2 (by omega)
       rw [h9] at h10; cases h10
      simp (config := { maxSteps := 4000000 }) only [↓sxw,sxw,tf49,sxu,sxl,sxm,Int.reduceBEq,Int.reduceBNe,Int.reduceLT,Int.reduceLE,Int.reduceEq,Int.reduceGT,Int.reduceGE,Int.reduceToNat,↓reduceIte,List.reduceReplicate,Nat.reduceAdd,Nat.reduceSub,Nat.reduceMul,Nat.reduceLT,Nat.reduceLeDiff,Nat.reduceBEq,Nat.reduceEqDiff,detA_eq,h9,hb]
     | true=>
     simp (config := { maxSteps := 4000000 }) only [↓sxw,sxw,tf49,sxu,sxl,sxm,Int.reduceBEq,Int.reduceBNe,Int.reduceLT,Int.reduceLE,Int.reduceEq,Int.reduceGT,Int.reduceGE,Int.reduceToNat,↓reduceIte,List.reduceReplicate,Nat.reduceAdd,Nat.reduceSub,Nat.reduceMul,Nat.reduceLT,Nat.reduceLeDiff,Nat.reduceBEq,Nat.reduceEqDiff,detA_eq,h9,e8]
     refine amid (at_f (hrT _) spc_len (List.getElem?_eq_getElem hkl) (o:=1) (x:=I c.tide[k].2) rfl fun ad3=>?_)
     by_cases h10:c.tide[k].2 > 200
     ·have hb:=bad fun h=>by
       have:=h.2.2.2.2.2.2.1 _ (List.getElem_mem hkl)
       omega
      have e10:(c.tide[k].2 > 200) = True:=eq_true h10
      simp (config := { maxSteps := 4000000 }) only [↓sxw,sxw,tf49,sxu,sxl,sxm,Int.reduceBEq,Int.reduceBNe,Int.reduceLT,Int.reduceLE,Int.reduceEq,Int.reduceGT,Int.reduceGE,Int.reduceToNat,↓reduceIte,List.reduceReplicate,Nat.reduceAdd,Nat.reduceSub,Nat.reduceMul,Nat.reduceLT,Nat.reduceLeDiff,Nat.reduceBEq,Nat.reduceEqDiff,e10,hb]
     ·have e10:(c.tide[k].2 > 200) = False:=eq_false h10
      simp (config := { maxSteps := 4000000 }) only [↓sxw,sxw,tf49,sxu,sxl,sxm,Int.reduceBEq,Int.reduceBNe,Int.reduceLT,Int.reduceLE,Int.reduceEq,Int.reduceGT,Int.reduceGE,Int.reduceToNat,↓reduceIte,List.reduceReplicate,Nat.reduceAdd,Nat.reduceSub,Nat.reduceMul,Nat.reduceLT,Nat.reduceLeDiff,Nat.reduceBEq,Nat.reduceEqDiff,e10]
      refine at_1 (hrS _) i1_len (List.getElem?_eq_getElem hks) rfl fun ad4=>?_
      cases h11:inB c.swell[k] 0 100 with
      | false=>
       have hb:=bad fun h=>by
        have:=h.2.2.2.2.2.2.2 _ (List.getElem_mem hks)
        rw [← inB_iff,h11] at this; cases this
       simp (config := { maxSteps := 4000000 }) only [↓sxw,sxw,tf49,sxu,sxl,sxm,Int.reduceBEq,Int.reduceBNe,Int.reduceLT,Int.reduceLE,Int.reduceEq,Int.reduceGT,Int.reduceGE,Int.reduceToNat,↓reduceIte,List.reduceReplicate,Nat.reduceAdd,Nat.reduceSub,Nat.reduceMul,Nat.reduceLT,Nat.reduceLeDiff,Nat.reduceBEq,Nat.reduceEqDiff,detA_eq,h11,hb]
      | true=>
       simp (config := { maxSteps := 4000000 }) only [↓sxw,sxw,tf49,sxu,sxl,sxm,Int.reduceBEq,Int.reduceBNe,Int.reduceLT,Int.reduceLE,Int.reduceEq,Int.reduceGT,Int.reduceGE,Int.reduceToNat,↓reduceIte,List.reduceReplicate,Nat.reduceAdd,Nat.reduceSub,Nat.reduceMul,Nat.reduceLT,Nat.reduceLeDiff,Nat.reduceBEq,Nat.reduceEqDiff,detA_eq,h11,e9]
       have hbt:badTide c.tide[k] = false:=by
        rw [inB_iff] at h9
        unfold badTide
        try simp
        omega
       refine ⟨k + 1,_,rfl,HImp.refl _ _,⟨rfl,by omega,fun x hx=>?_,fun x hx=>?_⟩,by omega⟩
       ·rw [List.take_add_one,List.getElem?_eq_getElem hkl,Option.toList_some,List.mem_append,List.mem_singleton] at hx
        rcases hx with hx | rfl
        ·exact ht1 x hx
        ·exact hbt
       ·rw [List.take_add_one,List.getElem?_eq_getElem hks,Option.toList_some,List.mem_append,List.mem_singleton] at hx
        rcases hx with hx | rfl
        ·exact ht2 x hx
        ·exact h11
  ·have hkl:k < c.depth.length:=by omega
   have e7:((k:Int) < (c.depth.length:Int)) = True:=eq_true (by omega)
   have e9:wr ((k:Int) + 1) = ((k + 1:Nat):Int):=(wrap_id (by omega)).trans (by omega)
   simp (config := { maxSteps := 4000000 }) only [↓sxw,sxw,tf49,sxu,sxl,sxm,Int.reduceBEq,Int.reduceBNe,Int.reduceLT,Int.reduceLE,Int.reduceEq,Int.reduceGT,Int.reduceGE,Int.reduceToNat,↓reduceIte,List.reduceReplicate,Nat.reduceAdd,Nat.reduceSub,Nat.reduceMul,Nat.reduceLT,Nat.reduceLeDiff,Nat.reduceBEq,Nat.reduceEqDiff,e7]
   refine amid (at_1 (hrD _) i1_len (List.getElem?_eq_getElem hkl) rfl fun ad1=>?_)
   cases h9:inB c.depth[k] (-1000) 1000 with
   | false=>
    have hb:=bad fun h=>by
     have:=h.2.2.2.2.2.1 _ (List.getElem_mem hkl)
     rw [← inB_iff,h9] at this; cases this
    simp (config := { maxSteps := 4000000 }) only [↓sxw,sxw,tf49,sxu,sxl,sxm,Int.reduceBEq,Int.reduceBNe,Int.reduceLT,Int.reduceLE,Int.reduceEq,Int.reduceGT,Int.reduceGE,Int.reduceToNat,↓reduceIte,List.reduceReplicate,Nat.reduceAdd,Nat.reduceSub,Nat.reduceMul,Nat.reduceLT,Nat.reduceLeDiff,Nat.reduceBEq,Nat.reduceEqDiff,detA_eq,h9,hb]
   | true=>
    simp (config := { maxSteps := 4000000 }) only [↓sxw,sxw,tf49,sxu,sxl,sxm,Int.reduceBEq,Int.reduceBNe,Int.reduceLT,Int.reduceLE,Int.reduceEq,Int.reduceGT,Int.reduceGE,Int.reduceToNat,↓reduceIte,List.reduceReplicate,Nat.reduceAdd,Nat.reduceSub,Nat.reduceMul,Nat.reduceLT,Nat.reduceLeDiff,Nat.reduceBEq,Nat.reduceEqDiff,detA_eq,h9,e9]
    refine ⟨k + 1,_,rfl,HImp.refl _ _,⟨rfl,by omega,fun x hx=>?_⟩,by omega⟩
    rw [List.take_add_one,List.getElem?_eq_getElem hkl,Option.toList_some,List.mem_append,List.mem_singleton] at hx
    rcases hx with hx | rfl
    ·exact ht x hx
    ·exact h9
end Go.Proofs.YtljpknnhimkkjaaGreatDoor

namespace Go.Proofs.YtljpknnhimkkjaaGreatDoor
open Go.RowKit Go.SX
set_option maxRecDepth 4000
set_option maxHeartbeats 4000000
set_option linter.unusedSimpArgs false
set_option linter.unusedVariables false
theorem cells_fn (w:World) (a b:Int) (x y z:Value):SX.Fn Tryz.prog 50 [.agg #[I a,I b,x,y,z]] w (fun _=>False) fun r N=>r = I (wr (a * b)):=by
 refine walk [] [] (det0_ok _ _) Tryz.func50 rfl Tryz.ntmps50 res50 (by kernel_rfl) no_facts ?_
 simp (config := { maxSteps := 4000000 }) only [↓sxw,sxw,tf50,sxu,sxl,sxm,Int.reduceBEq,Int.reduceBNe,Int.reduceLT,Int.reduceLE,Int.reduceEq,Int.reduceGT,Int.reduceGE,Int.reduceToNat,↓reduceIte,List.reduceReplicate,Nat.reduceAdd,Nat.reduceSub,Nat.reduceMul,Nat.reduceLT,Nat.reduceLeDiff,Nat.reduceBEq,Nat.reduceEqDiff]
theorem isDraught_fn (w:World) (n:Int):SX.Fn Tryz.prog 150 [I n] w (fun _=>False) fun r N=>r = .bool (inB n 1 100):=by
 refine walk [] [] (detA_ok _ _) Tryz.func150 rfl Tryz.ntmps150 res150 (by kernel_rfl) no_facts ?_
 simp (config := { maxSteps := 4000000 }) only [↓sxw,sxw,tf150,sxu,sxl,sxm,Int.reduceBEq,Int.reduceBNe,Int.reduceLT,Int.reduceLE,Int.reduceEq,Int.reduceGT,Int.reduceGE,Int.reduceToNat,↓reduceIte,List.reduceReplicate,Nat.reduceAdd,Nat.reduceSub,Nat.reduceMul,Nat.reduceLT,Nat.reduceLeDiff,Nat.reduceBEq,Nat.reduceEqDiff,detA_eq]
theorem isTick_fn (w:World) (a b t:Int) (x z:Value) (ad:Option Addr) (n c:Nat):SX.Fn Tryz.prog 169 [.agg #[I a,I b,x,.slice ad n c,z],I t] w (fun _=>False) fun r N=>r = .bool (inB t 0 (wr ((n:Int) - 1))):=by
 refine walk [] [] (detA_ok _ _) Tryz.func169 rfl Tryz.ntmps169 res169 (by kernel_rfl) no_facts ?_
 simp (config := { maxSteps := 4000000 }) only [↓sxw,sxw,tf169,sxu,sxl,sxm,Int.reduceBEq,Int.reduceBNe,Int.reduceLT,Int.reduceLE,Int.reduceEq,Int.reduceGT,Int.reduceGE,Int.reduceToNat,↓reduceIte,List.reduceReplicate,Nat.reduceAdd,Nat.reduceSub,Nat.reduceMul,Nat.reduceLT,Nat.reduceLeDiff,Nat.reduceBEq,Nat.reduceEqDiff,detA_eq]
def detC:Nat → List Value → Option Value
 | 50,[.agg ⟨[.int .i64 a,.int .i64 b,_,_,_]⟩]=>some (I (wr (a * b)))
 | 150,[.int .i64 n]=>some (.bool (inB n 1 100))
 | 169,[.agg ⟨[.int .i64 _,.int .i64 _,_,.slice _ n _,_]⟩,.int .i64 t]=>some (.bool (inB t 0 (wr ((n:Int) - 1))))
 | g,xs=>detA g xs
theorem detC_ok (w0:World) (X:Nat → Prop):DetFn Tryz.prog ⟨w0,X⟩ detC:=by
 intro g args v h w hk
 unfold detC at h
 split at h
 ·cases h
  exact det_of_fn (cells_fn w _ _ _ _ _)
 ·cases h
  exact det_of_fn (isDraught_fn w _)
 ·cases h
  exact det_of_fn (isTick_fn w _ _ _ _ _ _ _ _)
 ·exact detA_ok w0 X _ _ _ h w hk
theorem detC_eq:(∀ a b x y z,detC 50 [.agg #[I a,I b,x,y,z]] = some (I (wr (a * b)))) ∧ (∀ n,detC 150 [I n] = some (.bool (inB n 1 100))) ∧
  (∀ a b x ad n c z t,detC 169 [.agg #[I a,I b,x,.slice ad n c,z],I t] = some (.bool (inB t 0 (wr ((n:Int) - 1))))) ∧
  (∀ n l h:Int,detC 61 [I n,I l,I h] = some (.bool (inB n l h))) ∧ (∀ n l h:Int,detC 103 [I n,I l,I h] = some (.bool (inB n l h))):=⟨fun _ _ _ _ _=>rfl,fun _=>rfl,fun _ _ _ _ _ _ _ _=>rfl,fun _ _ _=>rfl,fun _ _ _=>rfl⟩
def isCellB (a b n:Int):Bool:=inB n 0 (wr (wr (a * b) - 1))
theorem isCell_fn (w:World) (a b n:Int) (x y z:Value):SX.Fn Tryz.prog 54 [.agg #[I a,I b,x,y,z],I n] w (fun _=>False) fun r N=>r = .bool (isCellB a b n):=by
 refine walk [] [] (detC_ok _ _) Tryz.func54 rfl Tryz.ntmps54 res54 (by kernel_rfl) no_facts ?_
 simp (config := { maxSteps := 4000000 }) only [↓sxw,sxw,tf54,sxu,sxl,sxm,Int.reduceBEq,Int.reduceBNe,Int.reduceLT,Int.reduceLE,Int.reduceEq,Int.reduceGT,Int.reduceGE,Int.reduceToNat,↓reduceIte,List.reduceReplicate,Nat.reduceAdd,Nat.reduceSub,Nat.reduceMul,Nat.reduceLT,Nat.reduceLeDiff,Nat.reduceBEq,Nat.reduceEqDiff,detC_eq]
 try rfl
def ways6:List (Int × Int × Int):=[(1,1,0),(0,1,1),(-1,0,1),(-1,-1,0),(-1,0,-1),(0,1,-1)]
def wyc (p:Int × Int × Int):List Value:=[I p.1,I p.2.1,I p.2.2]
theorem wyc_len (p:Int × Int × Int):(wyc p).length = 3:=rfl
def Ways (w:World):Prop:=∀ i v,(cat wyc ways6)[i]? = some v → w.cell? ⟨0,i,none⟩ = some v
def wayAt (d:Nat):Int × Int × Int:=ways6.getD d (0,0,0)
theorem ld_ways {w0:Base} {H:List HO} {d:Nat} {K:SV → Prop} (hW:Ways w0.w) (hX:¬ w0.X 0) (hd:d < 6) (hK:K (.v (.agg #[I (wayAt d).1,I (wayAt d).2.1,I (wayAt d).2.2]))):
  hold (LdOb w0 H ((⟨0,0,none⟩:Addr).add (d * 3)) (some 3) K) ⟨0⟩:=by
 refine ⟨wyc (wayAt d),rfl,fun i v hi=>.inl ⟨?_,by rw [add_block,add_block]; exact hX⟩,hK⟩
 have hlt:i < 3:=(List.getElem?_eq_some_iff.1 hi).1
 have hu:ways6[d]? = some (wayAt d):=by
  unfold wayAt
  rw [List.getD_eq_getElem?_getD,List.getElem?_eq_getElem (show d < ways6.length from hd)]
  try rfl
 have:=cat_get (f:=wyc) wyc_len hu hlt
 rw [add_block,add_block]
 refine hW _ _ ?_
 rw [show 0 + d * 3 + i = d * 3 + i by omega,this,hi]
def bes (W H k d:Nat):Option Nat:=
 let x:Int:=(k % W:Nat) + if k / W % 2 = 1 then (wayAt d).2.1 else (wayAt d).1
 let y:Int:=(k / W:Nat) + (wayAt d).2.2
 if (0 ≤ x ∧ x < W) ∧ 0 ≤ y ∧ y < H then some (y.toNat * W + x.toNat) else none
def besV (W H k d:Nat):Value:=match bes W H k d with
 | some n=>.tuple #[I n,.bool true]
 | none=>.tuple #[I 0,.bool false]
theorem way_bd (d:Nat):(-1 ≤ (wayAt d).1 ∧ (wayAt d).1 ≤ 1) ∧ (-1 ≤ (wayAt d).2.1 ∧ (wayAt d).2.1 ≤ 1) ∧ -1 ≤ (wayAt d).2.2 ∧ (wayAt d).2.2 ≤ 1:=by
 by_cases h:d < 6
 ·have:d = 0 ∨ d = 1 ∨ d = 2 ∨ d = 3 ∨ d = 4 ∨ d = 5:=by omega
  rcases this with rfl | rfl | rfl | rfl | rfl | rfl <;> decide
 ·unfold wayAt
  rw [List.getD_eq_getElem?_getD,List.getElem?_eq_none (by simp [ways6]; omega)]
  decide
theorem tdivmod {k W:Nat} (hW:1 ≤ W):(k:Int).tdiv W = (k / W:Nat) ∧ (k:Int).tmod W = (k % W:Nat):=by
 constructor
 ·rw [Int.tdiv_eq_ediv_of_nonneg (by omega)]; rfl
 ·rw [Int.tmod_eq_emod_of_nonneg (by omega)]; rfl
theorem bes_parts {W H q r d k:Nat} (hq:k / W = q) (hr:k % W = r) (hW:1 ≤ W ∧ W ≤ 12) (hH:1 ≤ H ∧ H ≤ 12) (hqH:q < H) (hrW:r < W) (e n:Int) (he:e = if q % 2 = 1 then (wayAt d).2.1 else (wayAt d).1) (hn:n = (wayAt d).2.2):
  wr (r + e) = r + e ∧ wr (q + n) = q + n ∧ wr ((W:Int) - 1) = W - 1 ∧ wr ((H:Int) - 1) = H - 1 ∧
  ((inB (r + e) 0 (W - 1) = true ∧ inB (q + n) 0 (H - 1) = true ∧ wr ((q + n) * W) = (q + n) * W ∧ wr ((q + n) * W + (r + e)) = (q + n) * W + (r + e) ∧ besV W H k d = .tuple #[I ((q + n) * W + (r + e)),.bool true]) ∨
   (¬ (inB (r + e) 0 (W - 1) = true ∧ inB (q + n) 0 (H - 1) = true) ∧ besV W H k d = .tuple #[I 0,.bool false])):=by
 have hbd:=way_bd d
 have hbe:-1 ≤ e ∧ e ≤ 1:=by
  rw [he]
  split <;> omega
 have hbn:-1 ≤ n ∧ n ≤ 1:=by omega
 refine ⟨wrap_id (by omega),wrap_id (by omega),wrap_id (by omega),wrap_id (by omega),?_⟩
 rw [inB_iff,inB_iff]
 unfold besV bes
 rw [hq,hr,← he,← hn]
 by_cases hc:(0 ≤ (r:Int) + e ∧ (r:Int) + e < W) ∧ 0 ≤ (q:Int) + n ∧ (q:Int) + n < H
 ·have h1:=mul_bd0 hc.2.1 (show (q:Int) + n ≤ 12 by omega) (show 0 ≤ (W:Int) by omega) (show (W:Int) ≤ 12 by omega)
  refine .inl ⟨by omega,by omega,wrap_id (by omega),wrap_id (by omega),?_⟩
  simp only [hc,and_self,if_true]
  congr 4
  rw [Int.natCast_add,Int.natCast_mul,Int.toNat_of_nonneg hc.2.1,Int.toNat_of_nonneg hc.1.1]
 ·refine .inr ⟨fun h=>hc (by omega),?_⟩
  simp only [hc,if_false]
theorem next_fn (w:World) (hw:Ways w) (W H k d:Nat) (x y z:Value) (hW:1 ≤ W ∧ W ≤ 12) (hH:1 ≤ H ∧ H ≤ 12) (hk:k < W * H) (hd:d < 6):
  SX.Fn Tryz.prog 121 [.agg #[I W,I H,x,y,z],I k,I d] w (fun _=>False) fun r N=>r = besV W H k d:=by
 have hdm:=tdivmod (k:=k) hW.1
 have hkW:k / W < H:=Nat.div_lt_of_lt_mul hk
 have hkm:k % W < W:=Nat.mod_lt _ (by omega)
 have hdm2:=tdivmod (k:=k / W) (W:=2) (by omega)
 have hp:=bes_parts (d:=d) rfl rfl hW hH hkW hkm _ _ rfl rfl
 generalize k / W = q at *
 generalize k % W = r at *
 have e3:(q:Int).tmod 2 = ((q % 2:Nat):Int):=hdm2.2
 have e1:wr (q:Int) = q:=wrap_id (by omega)
 have e0:((W:Int) = 0) = False:=eq_false (by omega)
 refine walk [] [(1,(ones [0,1,2,3,4,5] (.alt 6 (ones [7,8,9,10] .fin) (.alt 8 (.alt 6 (ones [7,9,10] .fin) (.alt 9 (ones [6,7,10] .fin) .no)) .no))))] (detA_ok _ _) Tryz.func121 rfl Tryz.ntmps121 res121 (by kernel_rfl) no_facts ?_
 simp (config := { maxSteps := 4000000 }) only [↓sxw,sxw,tf121,sxu,sxl,sxm,Int.reduceBEq,Int.reduceBNe,Int.reduceLT,Int.reduceLE,Int.reduceEq,Int.reduceGT,Int.reduceGE,Int.reduceToNat,↓reduceIte,List.reduceReplicate,Nat.reduceAdd,Nat.reduceSub,Nat.reduceMul,Nat.reduceLT,Nat.reduceLeDiff,Nat.reduceBEq,Nat.reduceEqDiff]
 refine ⟨by omega,by omega,ld_ways hw id hd ?_⟩
 by_cases ho:q % 2 = 1
 ·have e4:(((q % 2:Nat):Int) = 1) = True:=eq_true (by omega)
  rw [if_pos ho] at hp
  obtain ⟨p1,p2,p3,p4,p5⟩:=hp
  rcases p5 with ⟨q1,q2,q3,q4,q5⟩ | ⟨q1,q5⟩
  ·simp (config := { maxSteps := 4000000 }) only [↓sxw,sxw,tf121,sxu,sxl,sxm,Int.reduceBEq,Int.reduceBNe,Int.reduceLT,Int.reduceLE,Int.reduceEq,Int.reduceGT,Int.reduceGE,Int.reduceToNat,↓reduceIte,List.reduceReplicate,Nat.reduceAdd,Nat.reduceSub,Nat.reduceMul,Nat.reduceLT,Nat.reduceLeDiff,Nat.reduceBEq,Nat.reduceEqDiff,hdm.1,hdm.2,e0,e1,e3,e4,p1,p2,p3,p4,detA_eq,q1,q2,q3,q4,q5]
  ·cases q6:inB ((r:Int) + (wayAt d).2.1) 0 ((W:Int) - 1) with
   | false=>simp (config := { maxSteps := 4000000 }) only [↓sxw,sxw,tf121,sxu,sxl,sxm,Int.reduceBEq,Int.reduceBNe,Int.reduceLT,Int.reduceLE,Int.reduceEq,Int.reduceGT,Int.reduceGE,Int.reduceToNat,↓reduceIte,List.reduceReplicate,Nat.reduceAdd,Nat.reduceSub,Nat.reduceMul,Nat.reduceLT,Nat.reduceLeDiff,Nat.reduceBEq,Nat.reduceEqDiff,hdm.1,hdm.2,e0,e1,e3,e4,p1,p2,p3,p4,detA_eq,q6,q5]
   | true=>
    rw [q6] at q1; simp only [true_and,Bool.not_eq_true] at q1
    simp (config := { maxSteps := 4000000 }) only [↓sxw,sxw,tf121,sxu,sxl,sxm,Int.reduceBEq,Int.reduceBNe,Int.reduceLT,Int.reduceLE,Int.reduceEq,Int.reduceGT,Int.reduceGE,Int.reduceToNat,↓reduceIte,List.reduceReplicate,Nat.reduceAdd,Nat.reduceSub,Nat.reduceMul,Nat.reduceLT,Nat.reduceLeDiff,Nat.reduceBEq,Nat.reduceEqDiff,hdm.1,hdm.2,e0,e1,e3,e4,p1,p2,p3,p4,detA_eq,q6,q1,q5]
 ·have e4:(((q % 2:Nat):Int) = 1) = False:=eq_false (by omega)
  rw [if_neg ho] at hp
  obtain ⟨p1,p2,p3,p4,p5⟩:=hp
  rcases p5 with ⟨q1,q2,q3,q4,q5⟩ | ⟨q1,q5⟩
  ·simp (config := { maxSteps := 4000000 }) only [↓sxw,sxw,tf121,sxu,sxl,sxm,Int.reduceBEq,Int.reduceBNe,Int.reduceLT,Int.reduceLE,Int.reduceEq,Int.reduceGT,Int.reduceGE,Int.reduceToNat,↓reduceIte,List.reduceReplicate,Nat.reduceAdd,Nat.reduceSub,Nat.reduceMul,Nat.reduceLT,Nat.reduceLeDiff,Nat.reduceBEq,Nat.reduceEqDiff,hdm.1,hdm.2,e0,e1,e3,e4,p1,p2,p3,p4,detA_eq,q1,q2,q3,q4,q5]
  ·cases q6:inB ((r:Int) + (wayAt d).1) 0 ((W:Int) - 1) with
   | false=>simp (config := { maxSteps := 4000000 }) only [↓sxw,sxw,tf121,sxu,sxl,sxm,Int.reduceBEq,Int.reduceBNe,Int.reduceLT,Int.reduceLE,Int.reduceEq,Int.reduceGT,Int.reduceGE,Int.reduceToNat,↓reduceIte,List.reduceReplicate,Nat.reduceAdd,Nat.reduceSub,Nat.reduceMul,Nat.reduceLT,Nat.reduceLeDiff,Nat.reduceBEq,Nat.reduceEqDiff,hdm.1,hdm.2,e0,e1,e3,e4,p1,p2,p3,p4,detA_eq,q6,q5]
   | true=>
    rw [q6] at q1; simp only [true_and,Bool.not_eq_true] at q1
    simp (config := { maxSteps := 4000000 }) only [↓sxw,sxw,tf121,sxu,sxl,sxm,Int.reduceBEq,Int.reduceBNe,Int.reduceLT,Int.reduceLE,Int.reduceEq,Int.reduceGT,Int.reduceGE,Int.reduceToNat,↓reduceIte,List.reduceReplicate,Nat.reduceAdd,Nat.reduceSub,Nat.reduceMul,Nat.reduceLT,Nat.reduceLeDiff,Nat.reduceBEq,Nat.reduceEqDiff,hdm.1,hdm.2,e0,e1,e3,e4,p1,p2,p3,p4,detA_eq,q6,q1,q5]
theorem way_tab (d:Nat) (hd:d < 6):([I 1,I 0,I (-1),I (-1),I (-1),I 0]:List Value)[d * 1]? = some (I (wayAt d).1) ∧ ([I 1,I 1,I 0,I (-1),I 0,I 1]:List Value)[d * 1]? = some (I (wayAt d).2.1) ∧ ([I 0,I 1,I 1,I 0,I (-1),I (-1)]:List Value)[d * 1]? = some (I (wayAt d).2.2):=by
 have:d = 0 ∨ d = 1 ∨ d = 2 ∨ d = 3 ∨ d = 4 ∨ d = 5:=by omega
 rcases this with rfl | rfl | rfl | rfl | rfl | rfl <;> exact ⟨rfl,rfl,rfl⟩
theorem beside_fn (w:World) (W H k d:Nat) (x y z:Value) (hW:1 ≤ W ∧ W ≤ 12) (hH:1 ≤ H ∧ H ≤ 12) (hk:k < W * H) (hd:d < 6):
  SX.Fn Tryz.prog 191 [.agg #[I W,I H,x,y,z],I k,I d] w (fun _=>False) fun r N=>r = besV W H k d:=by
 have hdm:=tdivmod (k:=k) hW.1
 have hkW:k / W < H:=Nat.div_lt_of_lt_mul hk
 have hkm:k % W < W:=Nat.mod_lt _ (by omega)
 have hdm2:=tdivmod (k:=k / W) (W:=2) (by omega)
 have hp:=bes_parts (d:=d) rfl rfl hW hH hkW hkm _ _ rfl rfl
 generalize k / W = q at *
 generalize k % W = r at *
 have e3:(q:Int).tmod 2 = ((q % 2:Nat):Int):=hdm2.2
 have e1:wr (q:Int) = q:=wrap_id (by omega)
 have e0:((W:Int) = 0) = False:=eq_false (by omega)
 have ht:=way_tab d hd
 have e6:((d:Int) < ((6:Nat):Int)) = True:=eq_true (by omega)
 have e8:(0 ≤ (d:Int)) = True:=eq_true (by omega)
 refine walk [] [] (detA_ok _ _) Tryz.func191 rfl Tryz.ntmps191 res191 (by kernel_rfl) no_facts ?_
 by_cases ho:q % 2 = 0
 ·have e4:(((q % 2:Nat):Int) = 0) = True:=eq_true (by omega)
  rw [if_neg (show ¬ q % 2 = 1 by omega)] at hp
  obtain ⟨p1,p2,p3,p4,p5⟩:=hp
  rcases p5 with ⟨q1,q2,q3,q4,q5⟩ | ⟨q1,q5⟩
  ·simp (config := { maxSteps := 4000000 }) only [↓sxw,sxw,tf191,sxu,sxl,sxm,Int.reduceBEq,Int.reduceBNe,Int.reduceLT,Int.reduceLE,Int.reduceEq,Int.reduceGT,Int.reduceGE,Int.reduceToNat,↓reduceIte,List.reduceReplicate,Nat.reduceAdd,Nat.reduceSub,Nat.reduceMul,Nat.reduceLT,Nat.reduceLeDiff,Nat.reduceBEq,Nat.reduceEqDiff,hdm.1,hdm.2,e0,e1,e3,e4,e6,e8,p1,p2,p3,p4,ht,detA_eq,q1,q2,q3,q4,q5]
  ·cases q6:inB ((r:Int) + (wayAt d).1) 0 ((W:Int) - 1) with
   | false=>simp (config := { maxSteps := 4000000 }) only [↓sxw,sxw,tf191,sxu,sxl,sxm,Int.reduceBEq,Int.reduceBNe,Int.reduceLT,Int.reduceLE,Int.reduceEq,Int.reduceGT,Int.reduceGE,Int.reduceToNat,↓reduceIte,List.reduceReplicate,Nat.reduceAdd,Nat.reduceSub,Nat.reduceMul,Nat.reduceLT,Nat.reduceLeDiff,Nat.reduceBEq,Nat.reduceEqDiff,hdm.1,hdm.2,e0,e1,e3,e4,e6,e8,p1,p2,p3,p4,ht,detA_eq,q6,q5]
   | true=>
    rw [q6] at q1; simp only [true_and,Bool.not_eq_true] at q1
    simp (config := { maxSteps := 4000000 }) only [↓sxw,sxw,tf191,sxu,sxl,sxm,Int.reduceBEq,Int.reduceBNe,Int.reduceLT,Int.reduceLE,Int.reduceEq,Int.reduceGT,Int.reduceGE,Int.reduceToNat,↓reduceIte,List.reduceReplicate,Nat.reduceAdd,Nat.reduceSub,Nat.reduceMul,Nat.reduceLT,Nat.reduceLeDiff,Nat.reduceBEq,Nat.reduceEqDiff,hdm.1,hdm.2,e0,e1,e3,e4,e6,e8,p1,p2,p3,p4,ht,detA_eq,q6,q1,q5]
 ·have e4:(((q % 2:Nat):Int) = 0) = False:=eq_false (by omega)
  rw [if_pos (show q % 2 = 1 by omega)] at hp
  obtain ⟨p1,p2,p3,p4,p5⟩:=hp
  rcases p5 with ⟨q1,q2,q3,q4,q5⟩ | ⟨q1,q5⟩
  ·simp (config := { maxSteps := 4000000 }) only [↓sxw,sxw,tf191,sxu,sxl,sxm,Int.reduceBEq,Int.reduceBNe,Int.reduceLT,Int.reduceLE,Int.reduceEq,Int.reduceGT,Int.reduceGE,Int.reduceToNat,↓reduceIte,List.reduceReplicate,Nat.reduceAdd,Nat.reduceSub,Nat.reduceMul,Nat.reduceLT,Nat.reduceLeDiff,Nat.reduceBEq,Nat.reduceEqDiff,hdm.1,hdm.2,e0,e1,e3,e4,e6,e8,p1,p2,p3,p4,ht,detA_eq,q1,q2,q3,q4,q5]
  ·cases q6:inB ((r:Int) + (wayAt d).2.1) 0 ((W:Int) - 1) with
   | false=>simp (config := { maxSteps := 4000000 }) only [↓sxw,sxw,tf191,sxu,sxl,sxm,Int.reduceBEq,Int.reduceBNe,Int.reduceLT,Int.reduceLE,Int.reduceEq,Int.reduceGT,Int.reduceGE,Int.reduceToNat,↓reduceIte,List.reduceReplicate,Nat.reduceAdd,Nat.reduceSub,Nat.reduceMul,Nat.reduceLT,Nat.reduceLeDiff,Nat.reduceBEq,Nat.reduceEqDiff,hdm.1,hdm.2,e0,e1,e3,e4,e6,e8,p1,p2,p3,p4,ht,detA_eq,q6,q5]
   | true=>
    rw [q6] at q1; simp only [true_and,Bool.not_eq_true] at q1
    simp (config := { maxSteps := 4000000 }) only [↓sxw,sxw,tf191,sxu,sxl,sxm,Int.reduceBEq,Int.reduceBNe,Int.reduceLT,Int.reduceLE,Int.reduceEq,Int.reduceGT,Int.reduceGE,Int.reduceToNat,↓reduceIte,List.reduceReplicate,Nat.reduceAdd,Nat.reduceSub,Nat.reduceMul,Nat.reduceLT,Nat.reduceLeDiff,Nat.reduceBEq,Nat.reduceEqDiff,hdm.1,hdm.2,e0,e1,e3,e4,e6,e8,p1,p2,p3,p4,ht,detA_eq,q6,q1,q5]
end Go.Proofs.YtljpknnhimkkjaaGreatDoor

namespace Go.Proofs.YtljpknnhimkkjaaGreatDoor
open Go.RowKit Go.SX
set_option maxRecDepth 4000
set_option maxHeartbeats 4000000
set_option linter.unusedSimpArgs false
set_option linter.unusedVariables false
def Cht.dep (c:Cht) (k:Nat):Int:=c.depth.getD k 0
def Cht.swl (c:Cht) (t:Nat):Int:=c.swell.getD t 0
def Cht.tlo (c:Cht) (t:Nat):Int:=(c.tide.getD t (0,0)).1
def Cht.thi (c:Cht) (t:Nat):Int:=(c.tide.getD t (0,0)).2
def Cht.over (c:Cht) (k t:Nat) (h:Int):Int:=c.dep k + h - c.swl t
theorem getD_at {α:Type} {l:List α} {k:Nat} (h:k < l.length) (d:α):l[k]? = some (l.getD k d):=by
 rw [List.getD_eq_getElem?_getD,List.getElem?_eq_getElem h]; rfl
theorem getD_mem {α:Type} {l:List α} {k:Nat} (h:k < l.length) (d:α):l.getD k d ∈ l:=List.mem_of_getElem? (getD_at h d)
theorem Cht.ok.bds {c:Cht} (h:c.ok) {k t:Nat} (hk:k < c.depth.length) (ht:t < c.tide.length):
  (-1000 ≤ c.dep k ∧ c.dep k ≤ 1000) ∧ (0 ≤ c.swl t ∧ c.swl t ≤ 100) ∧ 0 ≤ c.tlo t ∧ c.tlo t ≤ c.thi t ∧ c.thi t ≤ 200:=
 ⟨h.2.2.2.2.2.1 _ (getD_mem hk 0),h.2.2.2.2.2.2.2 _ (getD_mem (by have:=h.2.2.2.2.1; omega) 0),h.2.2.2.2.2.2.1 _ (getD_mem ht (0,0))⟩
theorem water_fn (w:World) (v:Value) (c:Cht) (hc:ChOk w v c) (hok:c.ok) (k t:Nat) (hk:k < c.depth.length) (ht:t < c.tide.length):
  SX.Fn Tryz.prog 163 [v,I k,I t] w (fun _=>False) fun r N=>r = vS (c.over k t (c.tlo t),c.over k t (c.thi t)):=by
 have hb:=hok.bds hk ht
 have hs:=hok.2.2.2.2.1
 obtain ⟨sD,sT,sS,rfl,hD,hT,hS⟩:=hc
 obtain ⟨aD,nD,cD,rfl⟩:=hD.shape
 obtain ⟨aT,nT,cT,rfl⟩:=hT.shape
 obtain ⟨aS,nS,cS,rfl⟩:=hS.shape
 have hnD:=hD.le i1_len (by omega)
 have hnT:=hT.le spc_len (by omega)
 have hnS:=hS.le i1_len (by omega)
 subst hnD hnT hnS
 have hrD:=hD.rd0
 have hrT:=hT.rd0
 have hrS:=hS.rd0
 have e1:wr (c.dep k - c.swl t) = c.dep k - c.swl t:=wrap_id (by omega)
 have e2:wr (c.dep k - c.swl t + c.tlo t) = c.over k t (c.tlo t):=(wrap_id (by omega)).trans (by unfold Cht.over; omega)
 have e3:wr (c.dep k - c.swl t + c.thi t) = c.over k t (c.thi t):=(wrap_id (by omega)).trans (by unfold Cht.over; omega)
 refine walk [] [] (det0_ok _ _) Tryz.func163 rfl Tryz.ntmps163 res163 (by kernel_rfl) no_facts ?_
 simp (config := { maxSteps := 4000000 }) only [↓sxw,sxw,tf163,sxu,sxl,sxm,simprocAttr]
 refine at_1 (hrD _) i1_len (getD_at hk 0) rfl fun ad1=>?_
 simp (config := { maxSteps := 4000000 }) only [↓sxw,sxw,tf163,sxu,sxl,sxm,simprocAttr]
 refine at_1 (hrS _) i1_len (getD_at (by omega) 0) rfl fun ad2=>?_
 simp (config := { maxSteps := 4000000 }) only [↓sxw,sxw,tf163,sxu,sxl,sxm,simprocAttr,show c.depth.getD k 0 = c.dep k from rfl,show c.swell.getD t 0 = c.swl t from rfl,e1]
 refine at_f (hrT _) spc_len (getD_at ht (0,0)) (o:=0) (x:=I (c.tlo t)) rfl fun ad3=>?_
 simp (config := { maxSteps := 4000000 }) only [↓sxw,sxw,tf163,sxu,sxl,sxm,simprocAttr,e2]
 refine at_f (hrT _) spc_len (getD_at ht (0,0)) (o:=1) (x:=I (c.thi t)) rfl fun ad4=>?_
 simp (config := { maxSteps := 4000000 }) only [↓sxw,sxw,tf163,sxu,sxl,sxm,simprocAttr,e3]
 try rfl
theorem over_fn (w:World) (v:Value) (c:Cht) (hc:ChOk w v c) (hok:c.ok) (k t:Nat) (h:Int) (hk:k < c.depth.length) (ht:t < c.tide.length) (hh:-10000 ≤ h ∧ h ≤ 10000):
  SX.Fn Tryz.prog 195 [v,I k,I t,I h] w (fun _=>False) fun r N=>r = I (c.over k t h):=by
 have hb:=hok.bds hk ht
 have hs:=hok.2.2.2.2.1
 obtain ⟨sD,sT,sS,rfl,hD,hT,hS⟩:=hc
 obtain ⟨aD,nD,cD,rfl⟩:=hD.shape
 obtain ⟨aS,nS,cS,rfl⟩:=hS.shape
 have hnD:=hD.le i1_len (by omega)
 have hnS:=hS.le i1_len (by omega)
 subst hnD hnS
 have hrD:=hD.rd0
 have hrS:=hS.rd0
 have e1:wr (c.dep k + h) = c.dep k + h:=wrap_id (by omega)
 have e2:wr (c.dep k + h - c.swl t) = c.over k t h:=wrap_id (by omega)
 refine walk [] [] (det0_ok _ _) Tryz.func195 rfl Tryz.ntmps195 res195 (by kernel_rfl) no_facts ?_
 simp (config := { maxSteps := 4000000 }) only [↓sxw,sxw,tf195,sxu,sxl,sxm,simprocAttr]
 refine at_1 (hrD _) i1_len (getD_at hk 0) rfl fun ad1=>?_
 simp (config := { maxSteps := 4000000 }) only [↓sxw,sxw,tf195,sxu,sxl,sxm,simprocAttr,show c.depth.getD k 0 = c.dep k from rfl,e1]
 refine at_1 (hrS _) i1_len (getD_at (by omega) 0) rfl fun ad2=>?_
 simp (config := { maxSteps := 4000000 }) only [↓sxw,sxw,tf195,sxu,sxl,sxm,simprocAttr,show c.swell.getD t 0 = c.swl t from rfl,e2]
theorem ChOk.keep {w w':World} {v:Value} {c:Cht} {X:Nat → Prop} (h:ChOk w v c) (hk:Keep X w w') (hX:∀ b,b < w.heap.size → ¬ X b):ChOk w' v c:=by
 obtain ⟨sD,sT,sS,rfl,hD,hT,hS⟩:=h
 exact ⟨_,_,_,rfl,hD.keepR hk fun b hb=>hX b hb.2,hT.keepR hk fun b hb=>hX b hb.2,hS.keepR hk fun b hb=>hX b hb.2⟩
theorem ChOk.hp {w0:World} {v:Value} {c:Cht} {H:List HO} {w:World} (h:ChOk w0 v c) (hp:Hp ⟨w0,fun _=>False⟩ H w):ChOk w v c:=h.keep hp.ext fun _ _=>id
theorem Ways.keep {w w':World} {X:Nat → Prop} (h:Ways w) (hk:Keep X w w') (hX:¬ X 0):Ways w':=by
 intro i v hi
 have h1:=h i v hi
 have hlt:0 < w.heap.size:=by
  by_cases hb:0 < w.heap.size
  ·exact hb
  ·unfold World.cell? at h1
   rw [Array.getElem?_eq_none (by simpa using hb)] at h1
   cases h1
 unfold World.cell? at h1 ⊢
 rw [hk.block _ hlt hX]
 exact h1
theorem Ways.hp {w0:World} {H:List HO} {w:World} (h:Ways w0) (hp:Hp ⟨w0,fun _=>False⟩ H w):Ways w:=h.keep hp.ext id
noncomputable def detM (v:Value) (c:Cht):Nat → List Value → Option Value:=open Classical in fun
 | 163,[x,.int .i64 k,.int .i64 t]=>if x = v ∧ c.ok ∧ (0 ≤ k ∧ k < c.depth.length) ∧ 0 ≤ t ∧ t < c.tide.length then some (vS (c.over k.toNat t.toNat (c.tlo t.toNat),c.over k.toNat t.toNat (c.thi t.toNat))) else none
 | 195,[x,.int .i64 k,.int .i64 t,.int .i64 h]=>if x = v ∧ c.ok ∧ (0 ≤ k ∧ k < c.depth.length) ∧ (0 ≤ t ∧ t < c.tide.length) ∧ -10000 ≤ h ∧ h ≤ 10000 then some (I (c.over k.toNat t.toNat h)) else none
 | 60,xs=>if xs = [v] ∧ c.small then some (I (if c.okB then 0 else 10)) else none
 | 49,xs=>if xs = [v] ∧ c.small then some (I (if c.okB then 0 else 10)) else none
 | g,xs=>detC g xs
theorem detM_ok {v:Value} {c:Cht} {w0:World} {X:Nat → Prop} (hc:ChOk w0 v c) (hX:∀ b,b < w0.heap.size → ¬ X b):DetFn Tryz.prog ⟨w0,X⟩ (detM v c):=by
 intro g args r h w hk
 have hc':=hc.keep hk hX
 unfold detM at h
 split at h
 ·split at h
  ·rename_i k t hcond
   obtain ⟨rfl,hok,hkk,htt⟩:=hcond
   cases h
   have:=water_fn w _ c hc' hok k.toNat t.toNat (by omega) (by omega)
   rw [Int.toNat_of_nonneg hkk.1,Int.toNat_of_nonneg htt.1] at this
   exact det_of_fn this
  ·cases h
 ·split at h
  ·rename_i k t hh hcond
   obtain ⟨rfl,hok,hkk,htt,hb⟩:=hcond
   cases h
   have:=over_fn w _ c hc' hok k.toNat t.toNat hh (by omega) (by omega) hb
   rw [Int.toNat_of_nonneg hkk.1,Int.toNat_of_nonneg htt.1] at this
   exact det_of_fn this
  ·cases h
 ·split at h
  ·rename_i hcond
   obtain ⟨rfl,hsm⟩:=hcond
   cases h
   exact det_of_fn (check_fn w _ c hc' hsm)
  ·cases h
 ·split at h
  ·rename_i hcond
   obtain ⟨rfl,hsm⟩:=hcond
   cases h
   exact det_of_fn (rcheck_fn w _ c hc' hsm)
  ·cases h
 ·exact detC_ok w0 X _ _ _ h w hk
theorem detM_water {v:Value} {c:Cht} (hok:c.ok) {k t:Nat} (hk:k < c.depth.length) (ht:t < c.tide.length):detM v c 163 [v,I k,I t] = some (vS (c.over k t (c.tlo t),c.over k t (c.thi t))):=by
 exact if_pos ⟨rfl,hok,by omega,by omega⟩
theorem detM_check {v:Value} {c:Cht} (hs:c.small):detM v c 60 [v] = some (I (if c.okB then 0 else 10)) ∧ detM v c 49 [v] = some (I (if c.okB then 0 else 10)):=⟨if_pos ⟨rfl,hs⟩,if_pos ⟨rfl,hs⟩⟩
theorem detM_eq (v:Value) (c:Cht):(∀ a b x y z,detM v c 50 [.agg #[I a,I b,x,y,z]] = some (I (wr (a * b)))) ∧ (∀ n,detM v c 150 [I n] = some (.bool (inB n 1 100))) ∧
  (∀ a b x ad n c' z t,detM v c 169 [.agg #[I a,I b,x,.slice ad n c',z],I t] = some (.bool (inB t 0 (wr ((n:Int) - 1))))) ∧
  (∀ n l h:Int,detM v c 61 [I n,I l,I h] = some (.bool (inB n l h))) ∧ (∀ n l h:Int,detM v c 103 [I n,I l,I h] = some (.bool (inB n l h))):=⟨fun _ _ _ _ _=>rfl,fun _=>rfl,fun _ _ _ _ _ _ _ _=>rfl,fun _ _ _=>rfl,fun _ _ _=>rfl⟩
end Go.Proofs.YtljpknnhimkkjaaGreatDoor

namespace Go.Proofs.YtljpknnhimkkjaaGreatDoor
open Go.RowKit Go.SX
set_option maxRecDepth 4000
set_option maxHeartbeats 4000000
set_option linter.unusedSimpArgs false
set_option linter.unusedVariables false
theorem mul64_fn (w:World) (n:Nat) (hn:n < 200):SX.Fn Tryz.prog 175 [.int .u64 1,.int .u64 n] w (fun _=>False) fun r N=>r = .tuple #[.int .u64 0,.int .u64 n]:=by
 refine walk [] [] (det0_ok _ _) Tryz.func175 rfl Tryz.ntmps175 res175 (by kernel_rfl) no_facts ?_
 simp (config := { maxSteps := 4000000 }) only [↓sxw,sxw,tf175,sxu,sxl,sxm,simprocAttr]
 simp only [Value.tuple.injEq,Array.mk.injEq,List.cons.injEq,Value.int.injEq,true_and,and_true]
 clear w
 revert hn
 revert n
 decide +kernel
theorem mul_fn (w:World) (n:Nat) (hn:n < 200):SX.Fn Tryz.prog 157 [.int .u64 1,.int .u64 n] w (fun _=>False) fun r N=>r = .tuple #[.int .u64 0,.int .u64 n]:=by
 refine walk [] [] (det0_ok _ _) Tryz.func157 rfl Tryz.ntmps157 res157 (by kernel_rfl) no_facts ?_
 simp (config := { maxSteps := 4000000 }) only [↓sxw,sxw,tf157,sxu,sxl,sxm,simprocAttr,det0]
 refine CallOb.pure (fun w' hp=>mul64_fn w' n hn) ?_
 rintro r N rfl
 simp (config := { maxSteps := 4000000 }) only [↓sxw,sxw,tf157,sxu,sxl,sxm,simprocAttr]
theorem tE:elT Tryz.prog 22 = some (3,1,[.int .i64 0],8):=by kernel_rfl
theorem repeat_fn (w:World) (v:Value) (x:Int) (n:Nat) (hv:Sl w v 1 (ints [x])) (hn:n < 200) (h1:1 ≤ n):
  SX.Fn Tryz.prog 119 [v,I n] w (fun _=>False) fun r N=>∃ b,r = .slice (some ⟨b,0,none⟩) n n ∧ HO.row (.slice (some ⟨b,0,none⟩) n n) 3 1 (ints (List.replicate n x)) ∈ N:=by
 obtain ⟨a,n1,c1,rfl⟩:=hv.shape
 have hn1:=hv.le i1_len (by omega)
 simp only [List.length_cons,List.length_nil] at hn1
 subst hn1
 have e1:((n:Int) < 0) = False:=eq_false (by omega)
 have e2:IntKind.u64.wrap (n:Int) = n:=by
  rw [IntKind.wrap_u64]
  omega
 have e3:IntKind.u64.wrap ((0 + 1:Nat):Int) = 1:=by decide
 have e4:((n:Int) > 9223372036854775807) = False:=eq_false (by omega)
 have e5:wr (n:Int) = n:=wrap_id (by omega)
 refine walk [] [] (det0_ok _ _) Tryz.func119 rfl Tryz.ntmps119 res119 (by kernel_rfl) no_facts ?_
 simp (config := { maxSteps := 4000000 }) only [↓sxw,sxw,tf119,sxu,sxl,sxm,simprocAttr,e1,e2,e3,det0]
 refine CallOb.pure (fun w' hp=>mul_fn w' n hn) ?_
 rintro r N rfl
 simp (config := { maxSteps := 4000000 }) only [↓sxw,sxw,tf119,sxu,sxl,sxm,simprocAttr,e4,e5]
 refine ⟨by omega,by omega,by omega,fun b=>?_⟩
 have hz:zerosL (n:Int).toNat [Value.int IntKind.i64 0] = ints (List.replicate n 0):=zeros_cat i1 0 _
 rw [hz,Int.toNat_natCast]
 have hmin:Nat.min 1 n = 1:=Nat.min_eq_left h1
 have hrep:∀ m k:Nat,m + k ≤ n → (cat i1 (List.replicate m x ++ List.replicate (n - m) 0)).take m ++ cat i1 (List.replicate k x) ++ (cat i1 (List.replicate m x ++ List.replicate (n - m) 0)).drop (m + (cat i1 (List.replicate k x)).length) = cat i1 (List.replicate (m + k) x ++ List.replicate (n - (m + k)) 0):=by
  intro m k hmk
  have h1:=cat_take i1_len (List.replicate m x ++ List.replicate (n - m) (0:Int)) m
  have h2:=cat_drop i1_len (List.replicate m x ++ List.replicate (n - m) (0:Int)) (m + k)
  rw [Nat.mul_one] at h1 h2
  rw [cat_len i1_len,List.length_replicate,Nat.mul_one,h1,h2,← cat_append,← cat_append]
  congr 1
  rw [List.take_append_of_le_length (by simp),List.take_of_length_le (by simp),List.drop_append,List.drop_of_length_le (by simp),List.length_replicate,List.nil_append,List.drop_replicate,List.replicate_append_replicate]
  congr 2
  omega
 refine copy_row (T':=22) tE (ad:=⟨b,0,none⟩) (o:=0) (A:=[]) (ints [x]) rfl (by omega) (by rw [hmin]; rfl) (fun w' hp=>⟨_,hv.hp (fun _ _=>id) hp,by rw [hmin]; rfl⟩) (by simp [i1,cat,sxo]) ?_
 have h0:=hrep 0 1 (by omega)
 rw [List.replicate_zero,List.nil_append,Nat.sub_zero] at h0
 rw [show ints [x] = cat i1 (List.replicate 1 x) from rfl,h0,cat_len i1_len,List.length_replicate]
 simp (config := { maxSteps := 4000000 }) only [↓sxw,sxw,tf119,sxu,sxl,sxm,simprocAttr]
 refine loop_const [(8,8),(34,46)] (fun m:Nat=>[(8,I m)]) (fun m H1=>1 ≤ m ∧ m ≤ n ∧ H1 = [HO.row (.slice (some ⟨b,0,none⟩) n n) 3 1 (cat i1 (List.replicate m x ++ List.replicate (n - m) 0))] ++ N) (fun m=>n - m) 1 ?_ ⟨by omega,by omega,rfl⟩ ?_
 ·simp (config := { maxSteps := 4000000 }) only [↓sxw,sxw,tf119,sxu,sxl,sxm,simprocAttr]
 ·rintro m H1 g ⟨hm1,hmn,rfl⟩
  by_cases hme:m = n
  ·subst hme
   have e7:((m:Int) < (m:Int)) = False:=eq_false (by omega)
   simp (config := { maxSteps := 4000000 }) only [↓sxw,sxw,tf119,sxu,sxl,sxm,simprocAttr,e7]
   refine ⟨b,rfl,?_⟩
   try simp
  ·have e7:((m:Int) < (n:Int)) = True:=eq_true (by omega)
   simp (config := { maxSteps := 4000000 }) only [↓sxw,sxw,tf119,sxu,sxl,sxm,simprocAttr,e7]
   refine ⟨fun h=>h,by omega,by omega,by omega,by omega,?_⟩
   rw [show (if n = m then some (⟨b,0,none⟩:Addr) else some ((⟨b,0,none⟩:Addr).add (m * 1))) = some ((⟨b,0,none⟩:Addr).add m) by rw [if_neg (by omega),Nat.mul_one],
    show (if n = 0 then some (⟨b,0,none⟩:Addr) else some ((⟨b,0,none⟩:Addr).add 0)) = some ((⟨b,0,none⟩:Addr).add 0) from if_neg (by omega)]
   have hmin2:Nat.min (m - 0) (n - m) = min m (n - m):=rfl
   generalize hke:min m (n - m) = k at hmin2
   have hkb:1 ≤ k ∧ m + k ≤ n ∧ k ≤ m:=by omega
   refine copy_row (T':=22) tE (A:=[]) (cat i1 (List.replicate k x)) rfl (by omega) (by rw [hmin2,cat_len i1_len]; simp) (fun w' hp=>⟨_,(row_hp (E:=3) List.mem_cons_self hp).pre (m:=m) (by omega),?_⟩) (by intro v hv; rw [cat] at hv; simp only [List.mem_flatMap] at hv; obtain ⟨y,_,hy⟩:=hv; exact i1_one _ _ hy) ?_
   ·rw [hmin2,cat_take i1_len]
    have:=cat_take i1_len ((List.replicate m x ++ List.replicate (n - m) (0:Int)).take m) k
    rw [Nat.mul_one] at this
    rw [this,List.take_take,List.take_append_of_le_length (by simp; omega),List.take_replicate]
    congr 2
    omega
   rw [hrep m k hkb.2.1,cat_len i1_len,List.length_replicate]
   have e8:wr ((m:Int) + ((k * 1:Nat):Int)) = ((m + k:Nat):Int):=(wrap_id (by omega)).trans (by omega)
   simp (config := { maxSteps := 4000000 }) only [↓sxw,sxw,tf119,sxu,sxl,sxm,simprocAttr,e8]
   exact ⟨m + k,_,rfl,HImp.refl _ _,⟨by omega,by omega,rfl⟩,by omega⟩
end Go.Proofs.YtljpknnhimkkjaaGreatDoor

namespace Go.Proofs.YtljpknnhimkkjaaGreatDoor
open Go.RowKit Go.SX
set_option maxRecDepth 4000
set_option maxHeartbeats 4000000
set_option linter.unusedSimpArgs false
set_option linter.unusedVariables false
def detN:Nat → List Value → Option Value
 | 121,[.agg ⟨[.int .i64 a,.int .i64 b,_,_,_]⟩,.int .i64 k,.int .i64 d]=>if (1 ≤ a ∧ a ≤ 12) ∧ (1 ≤ b ∧ b ≤ 12) ∧ (0 ≤ k ∧ k.toNat < a.toNat * b.toNat) ∧ 0 ≤ d ∧ d < 6 then some (besV a.toNat b.toNat k.toNat d.toNat) else none
 | 191,[.agg ⟨[.int .i64 a,.int .i64 b,_,_,_]⟩,.int .i64 k,.int .i64 d]=>if (1 ≤ a ∧ a ≤ 12) ∧ (1 ≤ b ∧ b ≤ 12) ∧ (0 ≤ k ∧ k.toNat < a.toNat * b.toNat) ∧ 0 ≤ d ∧ d < 6 then some (besV a.toNat b.toNat k.toNat d.toNat) else none
 | g,xs=>detC g xs
theorem detN_ok {w0:World} {X:Nat → Prop} (hw:Ways w0) (hX:¬ X 0):DetFn Tryz.prog ⟨w0,X⟩ detN:=by
 intro g args v h w hk
 unfold detN at h
 split at h
 ·split at h
  ·rename_i a b x y z k d hc
   cases h
   have:=next_fn w (hw.keep hk hX) a.toNat b.toNat k.toNat d.toNat x y z (by omega) (by omega) hc.2.2.1.2 (by omega)
   rw [Int.toNat_of_nonneg (by omega),Int.toNat_of_nonneg (by omega),Int.toNat_of_nonneg (by omega),Int.toNat_of_nonneg (by omega)] at this
   exact det_of_fn this
  ·cases h
 ·split at h
  ·rename_i a b x y z k d hc
   cases h
   have:=beside_fn w a.toNat b.toNat k.toNat d.toNat x y z (by omega) (by omega) hc.2.2.1.2 (by omega)
   rw [Int.toNat_of_nonneg (by omega),Int.toNat_of_nonneg (by omega),Int.toNat_of_nonneg (by omega),Int.toNat_of_nonneg (by omega)] at this
   exact det_of_fn this
  ·cases h
 ·exact detC_ok w0 X _ _ _ h w hk
theorem detN_eq {W H k d:Nat} (hW:1 ≤ W ∧ W ≤ 12) (hH:1 ≤ H ∧ H ≤ 12) (hk:k < W * H) (hd:d < 6) (x y z:Value):
  detN 121 [.agg #[I W,I H,x,y,z],I k,I d] = some (besV W H k d) ∧ detN 191 [.agg #[I W,I H,x,y,z],I k,I d] = some (besV W H k d):=
 ⟨if_pos ⟨by omega,by omega,⟨by omega,hk⟩,by omega⟩,if_pos ⟨by omega,by omega,⟨by omega,hk⟩,by omega⟩⟩
def besL (W H k d:Nat):List Nat:=(List.range d).filterMap (bes W H k)
def nbL (W H k:Nat):List Nat:=k :: besL W H k 6
theorem besL_succ (W H k d:Nat):besL W H k (d + 1) = besL W H k d ++ (bes W H k d).toList:=by
 unfold besL
 rw [List.range_succ,List.filterMap_append]
 cases h:bes W H k d <;> simp [h]
theorem bes_lt {W H k d n:Nat} (h:bes W H k d = some n):n < W * H:=by
 unfold bes at h
 simp only [] at h
 generalize ((k % W:Nat):Int) + (if k / W % 2 = 1 then (wayAt d).2.1 else (wayAt d).1) = x at h
 generalize ((k / W:Nat):Int) + (wayAt d).2.2 = y at h
 split at h
 ·rename_i hc
  cases h
  have hy:y.toNat + 1 ≤ H:=by omega
  have hx:x.toNat < W:=by omega
  have:=Nat.mul_le_mul_left W hy
  rw [Nat.mul_add,Nat.mul_one] at this
  rw [Nat.mul_comm y.toNat W]
  omega
 ·cases h
theorem nbL_lt {W H k:Nat} (hk:k < W * H):∀ n ∈ nbL W H k,n < W * H:=by
 intro n hn
 rcases List.mem_cons.1 hn with rfl | hn
 ·exact hk
 ·obtain ⟨d,_,hd⟩:=List.mem_filterMap.1 hn
  exact bes_lt hd
theorem nbL_len (W H k:Nat):(nbL W H k).length ≤ 7:=by
 unfold nbL besL
 have:=List.length_filterMap_le (bes W H k) (List.range 6)
 simp at this ⊢
 omega
end Go.Proofs.YtljpknnhimkkjaaGreatDoor

