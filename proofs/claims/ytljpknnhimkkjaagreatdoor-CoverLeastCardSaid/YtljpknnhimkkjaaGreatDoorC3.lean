/- Parts of a proof: the symbolic walk and what it shows of single functions. -/
import Derived.Test.YtljpknnhimkkjaaGreatDoorC2
set_option linter.all false
namespace Go.Proofs.YtljpknnhimkkjaaGreatDoor
open Go.RowKit Go.SX
set_option maxRecDepth 4000
set_option maxHeartbeats 8000000
set_option linter.unusedSimpArgs false
set_option linter.unusedVariables false
structure Rmp where
 cell:Int
 draught:Int
 least:Int
 most:Int
 surf:Int
def rmv (r:Rmp):Value:=.agg #[I r.cell,I r.draught,I r.least,I r.most,I r.surf]
def rampB (c:Cht) (r:Rmp):Bool:=!notCell c r.cell && inB r.draught 1 100 && inB r.least 0 r.most && decide (r.most ≤ 200) && inB r.surf 0 100
def laun (c:Cht) (r:Rmp) (t:Nat) (h:Int):Prop:=(r.least ≤ h ∧ h ≤ r.most) ∧ c.swl t ≤ r.surf ∧ r.draught ≤ c.over r.cell.toNat t h
noncomputable def sureT (c:Cht) (r:Rmp) (t:Nat):Bool:=open Classical in decide (∀ h,c.tlo t ≤ h → h ≤ c.thi t → laun c r t h)
noncomputable def mayT (c:Cht) (r:Rmp) (t:Nat):Bool:=open Classical in decide (∃ h,c.tlo t ≤ h ∧ h ≤ c.thi t ∧ laun c r t h)
def winL (p:Nat → Bool):Nat → List (Int × Int)
 | 0=>[]
 | t + 1=>if p t then growL (winL p t) t else winL p t
theorem growL_len (l:List (Int × Int)) (t:Int):(growL l t).length ≤ l.length + 1:=by
 unfold growL
 split
 ·split <;> simp
 ·simp
theorem winL_len (p:Nat → Bool):∀ t,(winL p t).length ≤ t
 | 0=>Nat.le_refl _
 | t + 1=>by
  have h1:=winL_len p t
  have h2:=growL_len (winL p t) t
  unfold winL
  split <;> omega
theorem sure_calc {c:Cht} {r:Rmp} {t:Nat} (hlh:c.tlo t ≤ c.thi t):sureT c r t = (decide (c.swl t ≤ r.surf) && decide (max r.least (r.draught - c.dep r.cell.toNat + c.swl t) ≤ c.tlo t) && decide (c.thi t ≤ r.most)):=by
 unfold sureT
 rw [Bool.eq_iff_iff]
 simp only [decide_eq_true_eq,Bool.and_eq_true]
 unfold laun Cht.over
 constructor
 ·intro h
  have h1:=h (c.tlo t) (Int.le_refl _) hlh
  have h2:=h (c.thi t) hlh (Int.le_refl _)
  omega
 ·intro h x h1 h2
  omega
theorem may_calc {c:Cht} {r:Rmp} {t:Nat} (hlh:c.tlo t ≤ c.thi t):mayT c r t = (decide (c.swl t ≤ r.surf) && decide (max (max r.least (r.draught - c.dep r.cell.toNat + c.swl t)) (c.tlo t) ≤ min r.most (c.thi t))):=by
 unfold mayT
 rw [Bool.eq_iff_iff]
 simp only [decide_eq_true_eq,Bool.and_eq_true]
 unfold laun Cht.over
 constructor
 ·rintro ⟨x,h1,h2,h3⟩
  omega
 ·rintro ⟨h1,h2⟩
  exact ⟨max (max r.least (r.draught - c.dep r.cell.toNat + c.swl t)) (c.tlo t),by omega,by omega,by omega,by omega,by omega⟩
theorem fpsx_row (v:Value) (e sz:Nat) (xs:List Value):∀ b,fps [HO.row v e sz xs] b → fpsx [HO.row v e sz xs] b:=by
 rintro b ⟨h,hh,hb⟩
 rw [List.mem_singleton] at hh
 subst hh
 exact ⟨_,List.mem_singleton.2 rfl,hb⟩
theorem windows_fn (w:World) (v:Value) (c:Cht) (r:Rmp) (hc:ChOk w v c) (hok:c.ok) (hr:rampB c r = true) (hsm:c.small):
  SX.Fn Tryz.prog 19 [v,rmv r] w (fun _=>False) fun q N=>∃ x y,q = .tuple #[x,y,I 0] ∧ Got x 49 2 spc (winL (sureT c r) c.tide.length) N ∧ Got y 49 2 spc (winL (mayT c r) c.tide.length) N:=by
 have hc0:=hc
 have hD:=detM_ok (X:=fun _=>False) hc (fun _ _=>id)
 have hck:=(detM_check (v:=v) hsm).1
 rw [(okB_iff c).2 hok,if_pos rfl] at hck
 obtain ⟨sD,sT,sS,rfl,hsD,hsT,hsS⟩:=hc
 obtain ⟨aD,nD,cD,rfl⟩:=hsD.shape
 obtain ⟨aT,nT,cT,rfl⟩:=hsT.shape
 obtain ⟨aS,nS,cS,rfl⟩:=hsS.shape
 have hnD:=hsD.le i1_len (by omega)
 have hnT:=hsT.le spc_len (by omega)
 have hnS:=hsS.le i1_len (by omega)
 subst hnD hnT hnS
 have hrD:=hsD.rd0
 have hrT:=hsT.rd0
 have hrS:=hsS.rd0
 have hsw:=hok.2.2.2.2.1
 have hdl:c.depth.length ≤ 200:=hsm.1
 have htl:c.tide.length ≤ 100:=hsm.2.1
 unfold rampB at hr
 simp only [Bool.and_eq_true,decide_eq_true_eq] at hr
 obtain ⟨⟨⟨⟨r1,r2⟩,r3⟩,r4⟩,r5⟩:=hr
 have b1:0 ≤ r.cell ∧ r.cell ≤ (c.depth.length:Int) - 1:=by
  unfold notCell at r1
  rw [Bool.not_not,inB_iff] at r1
  exact r1
 have f1:=(inB_iff r.cell 0 ((c.depth.length:Int) - 1)).2 b1
 have b2:=(inB_iff _ _ _).1 r2
 have b3:=(inB_iff _ _ _).1 r3
 have b5:=(inB_iff _ _ _).1 r5
 have f0:wr ((c.depth.length:Int) - 1) = (c.depth.length:Int) - 1:=wrap_id (by omega)
 have f4:(r.most > 200) = False:=eq_false (by omega)
 unfold rmv
 have dn:(∀ xs,detM (.agg #[I c.wide,I c.high,.slice aD c.depth.length cD,.slice aT c.tide.length cT,.slice aS c.swell.length cS]) c 62 xs = none):=fun _=>rfl
 refine walkC [28] [] [] hD Tryz.func19 rfl Tryz.ntmps19 res19 (by kernel_rfl) no_facts ?_
 simp (config := { maxSteps := 4000000 }) only [↓sxw,sxw,tf19,sxu,sxl,sxm,simprocAttr,hck,detM_eq,f0,f1,r2,r3,f4,r5]
 obtain ⟨K,hK⟩:∃ K:Nat,r.cell = K:=⟨r.cell.toNat,by omega⟩
 have hKl:K < c.depth.length:=by omega
 have hKn:r.cell.toNat = K:=by omega
 rw [hK]
 generalize hRR:(fun (x:Value) (l:List (Int × Int))=>HO.row x 49 2 (cat spc l)) = RR
 have hRe:∀ x l,RR x l = HO.row x 49 2 (cat spc l):=fun x l=>by rw [← hRR]
 refine loop_constI [RR (.slice none 0 0) [],RR (.slice none 0 0) []] (by rw [hRe]; exact (HImp.nilRow _ _ _ _).trans (HImp.nilRow _ _ _ _)) [(4,5),(9,12),(57,118)] (fun p:Nat × Value × Value=>[(4,p.2.1),(5,p.2.2),(57,I p.1)])
  (fun p H1=>p.1 ≤ c.tide.length ∧ (∃ ad cp,p.2.1 = .slice ad (winL (sureT c r) p.1).length cp ∧ (ad = none → winL (sureT c r) p.1 = [])) ∧ (∃ ad cp,p.2.2 = .slice ad (winL (mayT c r) p.1).length cp ∧ (ad = none → winL (mayT c r) p.1 = [])) ∧ H1 = [RR p.2.1 (winL (sureT c r) p.1),RR p.2.2 (winL (mayT c r) p.1)]) (fun p=>c.tide.length - p.1)
  (0,.slice none 0 0,.slice none 0 0) ?_ ⟨Nat.zero_le _,⟨none,0,rfl,fun _=>rfl⟩,⟨none,0,rfl,fun _=>rfl⟩,rfl⟩ ?_
 ·simp (config := { maxSteps := 4000000 }) only [↓sxw,sxw,tf19,sxu,sxl,sxm,simprocAttr]
  try simp
 ·rintro ⟨t,xs,xm⟩ H1 g hinv
  simp only [] at hinv
  obtain ⟨ht,⟨a1,c1,rfl,h1⟩,⟨a2,c2,rfl,h2⟩,rfl⟩:=hinv
  have l1:=winL_len (sureT c r) t
  have l2:=winL_len (mayT c r) t
  by_cases htn:t = c.tide.length
  ·subst htn
   have e7:((c.tide.length:Int) < (c.tide.length:Int)) = False:=eq_false (by omega)
   simp (config := { maxSteps := 4000000 }) only [↓sxw,sxw,tf19,sxu,sxl,sxm,simprocAttr,e7]
   exact ⟨_,_,rfl,Got.row rfl (by simp [hRe]) h1,Got.row rfl (by simp [hRe]) h2⟩
  have htl2:t < c.tide.length:=by omega
  have e7:((t:Int) < (c.tide.length:Int)) = True:=eq_true (by omega)
  have e8:wr ((t:Int) + 1) = ((t + 1:Nat):Int):=(wrap_id (by omega)).trans (by omega)
  have hb:=hok.bds hKl htl2
  have e1:wr (r.draught - c.dep K) = r.draught - c.dep K:=wrap_id (by omega)
  have e2:wr (r.draught - c.dep K + c.swl t) = r.draught - c.dep K + c.swl t:=wrap_id (by omega)
  have hsc:=sure_calc (r:=r) hb.2.2.2.1
  have hmc:=may_calc (r:=r) hb.2.2.2.1
  rw [hKn] at hsc hmc
  simp (config := { maxSteps := 4000000 }) only [↓sxw,sxw,tf19,sxu,sxl,sxm,simprocAttr,e7]
  refine amid (at_n (hrT _) spc_len (by omega) (getD_at htl2 (0,0)) fun ad1=>?_)
  simp (config := { maxSteps := 4000000 }) only [↓sxw,sxw,tf19,sxu,sxl,sxm,simprocAttr,spc]
  refine at_1 (hrD _) i1_len (getD_at hKl 0) rfl fun ad2=>?_
  simp (config := { maxSteps := 4000000 }) only [↓sxw,sxw,tf19,sxu,sxl,sxm,simprocAttr,show c.depth.getD K 0 = c.dep K from rfl,e1]
  refine at_1 (hrS _) i1_len (getD_at (show t < c.swell.length by omega) 0) rfl fun ad3=>?_
  simp (config := { maxSteps := 4000000 }) only [↓sxw,sxw,tf19,sxu,sxl,sxm,simprocAttr,show c.swell.getD t 0 = c.swl t from rfl,e2]
  refine at_1 (hrS _) i1_len (getD_at (show t < c.swell.length by omega) 0) rfl fun ad4=>?_
  by_cases hsu:c.swl t > r.surf
  ·have e3:(c.swl t > r.surf) = True:=eq_true hsu
   have hs0:sureT c r t = false:=by rw [hsc]; simp; omega
   have hm0:mayT c r t = false:=by rw [hmc]; simp; omega
   have w1:winL (sureT c r) (t + 1) = winL (sureT c r) t:=by rw [winL,hs0]; simp
   have w2:winL (mayT c r) (t + 1) = winL (mayT c r) t:=by rw [winL,hm0]; simp
   simp (config := { maxSteps := 4000000 }) only [↓sxw,sxw,tf19,sxu,sxl,sxm,simprocAttr,show c.swell.getD t 0 = c.swl t from rfl,e3,e8]
   refine ⟨(t + 1,_,_),_,⟨rfl,rfl,rfl⟩,HImp.refl _ _,⟨by simp only []; omega,⟨a1,c1,by simp only [w1],by simp only [w1]; exact h1⟩,⟨a2,c2,by simp only [w2],by simp only [w2]; exact h2⟩,by simp only [w1,w2]⟩,by simp only []; omega⟩
  have e3:(c.swl t > r.surf) = False:=eq_false hsu
  have hsu':decide (c.swl t ≤ r.surf) = true:=decide_eq_true (by omega)
  rw [hsu',Bool.true_and] at hsc hmc
  simp (config := { maxSteps := 4000000 }) only [↓sxw,sxw,tf19,sxu,sxl,sxm,simprocAttr,show c.swell.getD t 0 = c.swl t from rfl,e3,show (c.tide.getD t (0,0)).1 = c.tlo t from rfl,show (c.tide.getD t (0,0)).2 = c.thi t from rfl]
  have hT1:c.tide.length ≤ 60:=hok.2.2.2.1.2
  refine cut_const [(4,4),(93,105)] (fun x:Value=>[(4,x)]) (fun x H1=>(∃ ad cp,x = .slice ad (winL (sureT c r) (t + 1)).length cp ∧ (ad = none → winL (sureT c r) (t + 1) = [])) ∧ H1 = [RR x (winL (sureT c r) (t + 1)),RR (.slice a2 (winL (mayT c r) t).length c2) (winL (mayT c r) t)]) ?_ ?_
  ·by_cases hAB:max r.least (r.draught - c.dep K + c.swl t) ≤ c.tlo t ∧ c.thi t ≤ r.most
   ·have e4:(max r.least (r.draught - c.dep K + c.swl t) ≤ c.tlo t) = True:=eq_true hAB.1
    have e5:(c.thi t ≤ r.most) = True:=eq_true hAB.2
    have hs1:sureT c r t = true:=by rw [hsc]; simp [hAB.1,hAB.2]
    have w1:winL (sureT c r) (t + 1) = growL (winL (sureT c r) t) t:=by rw [winL,hs1]; simp
    simp (config := { maxSteps := 4000000 }) only [↓sxw,sxw,tf19,sxu,sxl,sxm,simprocAttr,e4,e5,dn]
    refine CallOb.mut (A:=[RR (.slice a1 (winL (sureT c r) t).length c1) (winL (sureT c r) t)]) (B:=[RR (.slice a2 (winL (mayT c r) t).length c2) (winL (mayT c r) t)]) (HImp.refl _ _) (by rw [hRe]; exact fpsx_row _ _ _ _) (fun w' hp=>by
     have hro:=hp.ok (RR (.slice a1 (winL (sureT c r) t).length c1) (winL (sureT c r) t)) (by simp)
     rw [hRe] at hro ⊢
     exact grow_fn w' _ (winL (sureT c r) t) t hro ⟨a1,c1,rfl,h1⟩ (by omega) (by omega)) ?_
    rintro q N ⟨a4,c4,rfl,h4,rfl⟩
    simp (config := { maxSteps := 4000000 }) only [↓sxw,sxw,tf19,sxu,sxl,sxm,simprocAttr]
    exact ⟨_,_,rfl,HImp.refl _ _,⟨a4,c4,by rw [w1],by rw [w1]; exact h4⟩,by rw [w1,hRe,hRe]⟩
   ·have hs0:sureT c r t = false:=by rw [hsc]; simp; omega
    have w1:winL (sureT c r) (t + 1) = winL (sureT c r) t:=by rw [winL,hs0]; simp
    by_cases hA:max r.least (r.draught - c.dep K + c.swl t) ≤ c.tlo t
    ·have e4:(max r.least (r.draught - c.dep K + c.swl t) ≤ c.tlo t) = True:=eq_true hA
     have e5:(c.thi t ≤ r.most) = False:=eq_false fun h=>hAB ⟨hA,h⟩
     simp (config := { maxSteps := 4000000 }) only [↓sxw,sxw,tf19,sxu,sxl,sxm,simprocAttr,e4,e5]
     exact ⟨_,_,rfl,HImp.refl _ _,⟨a1,c1,by rw [w1],by rw [w1]; exact h1⟩,by rw [w1]⟩
    ·have e4:(max r.least (r.draught - c.dep K + c.swl t) ≤ c.tlo t) = False:=eq_false hA
     simp (config := { maxSteps := 4000000 }) only [↓sxw,sxw,tf19,sxu,sxl,sxm,simprocAttr,e4]
     exact ⟨_,_,rfl,HImp.refl _ _,⟨a1,c1,by rw [w1],by rw [w1]; exact h1⟩,by rw [w1]⟩
  ·rintro x H1 g2 ⟨⟨a3,c3,rfl,h3⟩,rfl⟩
   by_cases hC:max (max r.least (r.draught - c.dep K + c.swl t)) (c.tlo t) ≤ min r.most (c.thi t)
   ·have e4:(max (max r.least (r.draught - c.dep K + c.swl t)) (c.tlo t) ≤ min r.most (c.thi t)) = True:=eq_true hC
    have hm1:mayT c r t = true:=by rw [hmc]; exact decide_eq_true hC
    have w2:winL (mayT c r) (t + 1) = growL (winL (mayT c r) t) t:=by rw [winL,hm1]; simp
    simp (config := { maxSteps := 4000000 }) only [↓sxw,sxw,tf19,sxu,sxl,sxm,simprocAttr,e4,dn]
    refine CallOb.mut (A:=[RR (.slice a2 (winL (mayT c r) t).length c2) (winL (mayT c r) t)]) (B:=[RR (.slice a3 (winL (sureT c r) (t + 1)).length c3) (winL (sureT c r) (t + 1))]) (HImp.swap _ _ _ _) (by rw [hRe]; exact fpsx_row _ _ _ _) (fun w' hp=>by
     have hro:=hp.ok (RR (.slice a2 (winL (mayT c r) t).length c2) (winL (mayT c r) t)) (by simp)
     rw [hRe] at hro ⊢
     exact grow_fn w' _ (winL (mayT c r) t) t hro ⟨a2,c2,rfl,h2⟩ (by omega) (by omega)) ?_
    rintro q N ⟨a4,c4,rfl,h4,rfl⟩
    simp (config := { maxSteps := 4000000 }) only [↓sxw,sxw,tf19,sxu,sxl,sxm,simprocAttr,e8]
    refine ⟨(t + 1,_,_),_,⟨rfl,rfl,rfl⟩,HImp.swap _ _ _ _,⟨by simp only []; omega,⟨a3,c3,rfl,h3⟩,⟨a4,c4,by simp only [w2],by simp only [w2]; exact h4⟩,by simp only [w2,hRe]⟩,by simp only []; omega⟩
   ·have e4:(max (max r.least (r.draught - c.dep K + c.swl t)) (c.tlo t) ≤ min r.most (c.thi t)) = False:=eq_false hC
    have hm0:mayT c r t = false:=by rw [hmc]; exact decide_eq_false hC
    have w2:winL (mayT c r) (t + 1) = winL (mayT c r) t:=by rw [winL,hm0]; simp
    simp (config := { maxSteps := 4000000 }) only [↓sxw,sxw,tf19,sxu,sxl,sxm,simprocAttr,e4,e8]
    exact ⟨(t + 1,_,_),_,⟨rfl,rfl,rfl⟩,HImp.refl _ _,⟨by simp only []; omega,⟨a3,c3,rfl,h3⟩,⟨a2,c2,by simp only [w2],by simp only [w2]; exact h2⟩,by simp only [w2]⟩,by simp only []; omega⟩
end Go.Proofs.YtljpknnhimkkjaaGreatDoor

namespace Go.Proofs.YtljpknnhimkkjaaGreatDoor
open Go.RowKit Go.SX
set_option maxRecDepth 4000
set_option maxHeartbeats 8000000
set_option linter.unusedSimpArgs false
set_option linter.unusedVariables false
theorem isRamp_fn (w:World) (hw:Ways w) (v:Value) (c:Cht) (r:Rmp) (hc:ChOk w v c) (hok:c.ok):SX.Fn Tryz.prog 105 [v,rmv r] w (fun _=>False) fun q N=>q = .bool (rampB c r):=by
 have hD:=detR_ok (X:=fun _=>False) hw hc (fun _ _=>id)
 obtain ⟨sD,sT,sS,rfl,_,_,_⟩:=hc
 have ic:=isCell_iff hok r.cell
 unfold rmv rampB
 refine walk [] [] hD Tryz.func105 rfl Tryz.ntmps105 res105 (by kernel_rfl) no_facts ?_
 cases h1:notCell c r.cell with
 | true=>
  rw [h1] at ic
  simp (config := { maxSteps := 4000000 }) only [↓sxw,sxw,tf105,sxu,sxl,sxm,simprocAttr,detR_eq,ic]
 | false=>
 rw [h1] at ic
 cases h2:inB r.draught 1 100 with
 | false=>simp (config := { maxSteps := 4000000 }) only [↓sxw,sxw,tf105,sxu,sxl,sxm,simprocAttr,detR_eq,ic,h2]
 | true=>
 cases h3:inB r.least 0 r.most with
 | false=>simp (config := { maxSteps := 4000000 }) only [↓sxw,sxw,tf105,sxu,sxl,sxm,simprocAttr,detR_eq,ic,h2,h3]
 | true=>
 by_cases h4:r.most ≤ 200
 ·have e4:(r.most ≤ 200) = True:=eq_true h4
  simp (config := { maxSteps := 4000000 }) only [↓sxw,sxw,tf105,sxu,sxl,sxm,simprocAttr,detR_eq,ic,h2,h3,e4]
 ·have e4:(r.most ≤ 200) = False:=eq_false h4
  simp (config := { maxSteps := 4000000 }) only [↓sxw,sxw,tf105,sxu,sxl,sxm,simprocAttr,detR_eq,ic,h2,h3,e4]
end Go.Proofs.YtljpknnhimkkjaaGreatDoor

namespace Go.Proofs.YtljpknnhimkkjaaGreatDoor
open Go.RowKit Go.SX
set_option maxRecDepth 4000
set_option maxHeartbeats 8000000
set_option linter.unusedSimpArgs false
set_option linter.unusedVariables false
def nil2 (e:Int):Value:=.tuple #[.slice none 0 0,.slice none 0 0,I e]
theorem windows_bad (w:World) (v:Value) (c:Cht) (r:Rmp) (hc:ChOk w v c) (hsm:c.small) (hbad:¬ (c.ok ∧ rampB c r = true)):
  SX.Fn Tryz.prog 19 [v,rmv r] w (fun _=>False) fun q N=>q = nil2 (if c.okB then 11 else 10):=by
 have hD:=detM_ok (X:=fun _=>False) hc (fun _ _=>id)
 have hck:=(detM_check (v:=v) hsm).1
 obtain ⟨sD,sT,sS,rfl,hsD,hsT,hsS⟩:=hc
 obtain ⟨aD,nD,cD,rfl⟩:=hsD.shape
 obtain ⟨aT,nT,cT,rfl⟩:=hsT.shape
 obtain ⟨aS,nS,cS,rfl⟩:=hsS.shape
 have hnD:=hsD.le i1_len (by omega)
 subst hnD
 have hdl:c.depth.length ≤ 200:=hsm.1
 have f0:wr ((c.depth.length:Int) - 1) = (c.depth.length:Int) - 1:=wrap_id (by omega)
 unfold rmv nil2
 refine walk [] [] hD Tryz.func19 rfl Tryz.ntmps19 res19 (by kernel_rfl) no_facts ?_
 cases hok:c.okB with
 | false=>
  rw [hok] at hck
  simp (config := { maxSteps := 4000000 }) only [↓sxw,sxw,tf19,sxu,sxl,sxm,simprocAttr,hck]
 | true=>
 rw [hok] at hck
 have hok':=(okB_iff c).1 hok
 have hr:rampB c r = false:=by
  cases h:rampB c r with
  | false=>rfl
  | true=>exact absurd ⟨hok',h⟩ hbad
 have hnc:notCell c r.cell = !inB r.cell 0 ((c.depth.length:Int) - 1):=rfl
 unfold rampB at hr
 rw [hnc,Bool.not_not] at hr
 cases h1:inB r.cell 0 ((c.depth.length:Int) - 1) with
 | false=>simp (config := { maxSteps := 4000000 }) only [↓sxw,sxw,tf19,sxu,sxl,sxm,simprocAttr,hck,detM_eq,f0,h1]
 | true=>
 cases h2:inB r.draught 1 100 with
 | false=>simp (config := { maxSteps := 4000000 }) only [↓sxw,sxw,tf19,sxu,sxl,sxm,simprocAttr,hck,detM_eq,f0,h1,h2]
 | true=>
 cases h3:inB r.least 0 r.most with
 | false=>simp (config := { maxSteps := 4000000 }) only [↓sxw,sxw,tf19,sxu,sxl,sxm,simprocAttr,hck,detM_eq,f0,h1,h2,h3]
 | true=>
 by_cases h4:r.most > 200
 ·have e4:(r.most > 200) = True:=eq_true h4
  simp (config := { maxSteps := 4000000 }) only [↓sxw,sxw,tf19,sxu,sxl,sxm,simprocAttr,hck,detM_eq,f0,h1,h2,h3,e4]
 ·have e4:(r.most > 200) = False:=eq_false h4
  have h5:inB r.surf 0 100 = false:=by
   rw [h1,h2,h3,decide_eq_true (show r.most ≤ 200 by omega)] at hr
   simpa using hr
  simp (config := { maxSteps := 4000000 }) only [↓sxw,sxw,tf19,sxu,sxl,sxm,simprocAttr,hck,detM_eq,f0,h1,h2,h3,e4,h5]
end Go.Proofs.YtljpknnhimkkjaaGreatDoor

