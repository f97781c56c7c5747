/- A part of a proof: the symbolic walk and what it shows of single functions. -/
import Derived.Test.YtljpknnhimkkjaaGreatDoorH5
import Derived.Test.YtljpknnhimkkjaaGreatDoorH5
set_option linter.all false
namespace Go.Proofs.YtljpknnhimkkjaaGreatDoor
open Go.RowKit Go.SX
set_option maxRecDepth 10000
set_option maxHeartbeats 0
set_option linter.unusedSimpArgs false
set_option linter.unusedVariables false
theorem hrsE_of {x:Cst} (hok:x.ok) {mark base:Int} (h0:0 ≤ mark ∧ mark < x.marks.length) (h1:-1 ≤ base ∧ base < x.bases.length):hrsE x mark base = 0:=by
 unfold hrsE
 rw [(Cst.okB_iff x).2 hok,if_pos rfl,(inB_iff _ _ _).2 (by omega),(inB_iff _ _ _).2 (by omega)]
 rfl
theorem rch_mono {x:Cst} {k:Nat} {call:Int} (h:rchB x k call (setI [-1]) = false) {base:Int} (hb:-1 ≤ base):rchB x k call (setI [base]) = false:=by
 rw [rch_set (by omega)] at h
 rw [rch_set hb]
 rw [← Bool.not_eq_true,List.any_eq_true] at h ⊢
 rintro ⟨i,hi,h2⟩
 rw [Bool.and_eq_true] at h2
 exact h ⟨i,hi,by rw [h2.2,decide_eq_false (by omega)]; rfl⟩
def pl11_9:Plan:=(ones [0,1,2,3,4,5,6,7,8,9,10,11,12,13,14,15,16,17,18,19,20,21,22,23,24,25,26,27,28,29,30,31,32,33,34,35,36,37,38,39,40,41,42,43,44,45,46,47] .fin)
def pl11:List (Nat × Plan):=[(9,pl11_9)]
theorem pl11_lk:(lkO 9 pl11 = some pl11_9):=rfl
theorem coverPrinted_fn (w:World) (hw:Ways w) (v:Value) (x:Cst) (hx:CoOk w v x) (mk bs call:Int) (vs:Value) (ls:List Int) (hls:Sl w vs 1 (ints ls)):SX.Fn Tryz.prog 11 [v,.agg #[I mk,I bs,I call,vs]] w (fun _=>False) fun r N=>r = .bool true:=by
 have dn:∀ (g:Nat) (xs:List Value),det0 g xs = none:=fun _ _=>rfl
 obtain ⟨aV,nV,cV,rfl⟩:=hls.shape
 have hva:=fun (H:List HO) w' (hp:Hp ⟨w,fun _=>False⟩ H w')=>valid8_fn w' (hw.hp hp) v x (hx.hp hp)
 have hwo:=fun (H:List HO) w' (hp:Hp ⟨w,fun _=>False⟩ H w')=>works8_fn w' (hw.hp hp)
 have hho:=fun (hsm:x.small) (H:List HO) w' (hp:Hp ⟨w,fun _=>False⟩ H w')=>Hours_fn w' (hw.hp hp) v x (hx.hp hp) hsm mk bs
 have hga:=fun (hsm:x.small) (cl:Int) (H:List HO) w' (hp:Hp ⟨w,fun _=>False⟩ H w')=>Gaps_fn w' (hw.hp hp) v x (hx.hp hp) hsm cl
 obtain ⟨sD,sT,sS,vb,vm,pb,rfl,hC,h2,h3,h4,h5⟩:=hx
 have hpl:pb.length = x.bases.length:=by rw [← h2,List.length_map]
 obtain ⟨hD,hT,hS⟩:=hC.parts
 obtain ⟨aD,nD,cD,rfl⟩:=hD.shape
 obtain ⟨aS,nS,cS,rfl⟩:=hS.shape
 obtain ⟨aT,nT,cT,rfl⟩:=hT.shape
 obtain ⟨aB,nB,cB,rfl⟩:=h3.shape
 have hn4:=h3.le bac_len (by omega)
 obtain ⟨aM,nM,cM,rfl⟩:=h5.shape
 have hn5:=h5.le spc_len (by omega)
 subst hn4 hn5
 unfold VldP at hva
 unfold HrsP at hho
 unfold GapP at hga
 unfold cov at hva hho hga ⊢
 refine walkC [3] [] pl11 (det0_ok _ _) Tryz.func11 rfl Tryz.ntmps11 res11 (by kernel_rfl) no_facts ?_
 simp (config := { maxSteps := 4000000 }) only [↓sxw,sxw,tf11,sxu,sxl,sxm,simprocAttr,dn]
 refine cut_constH [(14,42)] (fun b:Bool=>[(42,.bool b)]) (fun b H2=>H2 = [] ∧ (b = false → x.small ∧ x.ok ∧ (0 ≤ mk ∧ mk < x.marks.length) ∧ (-1 ≤ bs ∧ bs < pb.length))) ?_ ?_
 ·refine ⟨?_⟩
  simp (config := { maxSteps := 4000000 }) only [↓sxw,sxw,tf11,sxu,sxl,sxm,simprocAttr,dn]
  refine CallOb.pureH (fun w' hp=>hva _ w' hp) ?_
  rintro r N ⟨b,rfl,hb⟩
  cases b with
  | false=>
   refine ⟨?_⟩
   simp (config := { maxSteps := 4000000 }) only [↓sxw,sxw,tf11,sxu,sxl,sxm,simprocAttr,dn]
   exact ⟨true,_,rfl,HImp.nil _ _,rfl,fun h=>by cases h⟩
  | true=>
  obtain ⟨hsm,hok,_⟩:=hb rfl
  by_cases c0:mk < 0
  ·have z0:(mk < 0) = True:=eq_true c0
   refine ⟨?_⟩
   simp (config := { maxSteps := 4000000 }) only [↓sxw,sxw,tf11,sxu,sxl,sxm,simprocAttr,z0,dn]
   exact ⟨true,_,rfl,HImp.nil _ _,rfl,fun h=>by cases h⟩
  have z0:(mk < 0) = False:=eq_false c0
  by_cases c1:mk ≥ (x.marks.length:Int)
  ·have z1:(mk ≥ (x.marks.length:Int)) = True:=eq_true c1
   refine ⟨?_⟩
   simp (config := { maxSteps := 4000000 }) only [↓sxw,sxw,tf11,sxu,sxl,sxm,simprocAttr,z0,z1,dn]
   exact ⟨true,_,rfl,HImp.nil _ _,rfl,fun h=>by cases h⟩
  have z1:(mk ≥ (x.marks.length:Int)) = False:=eq_false c1
  by_cases c2:bs < -1
  ·have z2:(bs < -1) = True:=eq_true c2
   refine ⟨?_⟩
   simp (config := { maxSteps := 4000000 }) only [↓sxw,sxw,tf11,sxu,sxl,sxm,simprocAttr,z0,z1,z2,dn]
   exact ⟨true,_,rfl,HImp.nil _ _,rfl,fun h=>by cases h⟩
  have z2:(bs < -1) = False:=eq_false c2
  by_cases c3:bs ≥ (pb.length:Int)
  ·have z3:(bs ≥ (pb.length:Int)) = True:=eq_true c3
   refine ⟨?_⟩
   simp (config := { maxSteps := 4000000 }) only [↓sxw,sxw,tf11,sxu,sxl,sxm,simprocAttr,z0,z1,z2,z3,dn]
   exact ⟨true,_,rfl,HImp.nil _ _,rfl,fun h=>by cases h⟩
  have z3:(bs ≥ (pb.length:Int)) = False:=eq_false c3
  refine ⟨?_⟩
  simp (config := { maxSteps := 4000000 }) only [↓sxw,sxw,tf11,sxu,sxl,sxm,simprocAttr,z0,z1,z2,z3,dn]
  exact ⟨false,_,rfl,HImp.nil _ _,rfl,fun _=>⟨hsm,hok,⟨by omega,by omega⟩,by omega,by omega⟩⟩
 rintro b H2 g2 ⟨rfl,hb⟩
 cases b with
 | true=>
  refine ⟨?_⟩
  simp (config := { maxSteps := 4000000 }) only [↓sxw,sxw,tf11,sxu,sxl,sxm,simprocAttr,dn]
  refine CallOb.pureH (fun w' hp=>hwo _ w' hp) ?_
  rintro r N rfl
  refine ⟨?_⟩
  simp (config := { maxSteps := 4000000 }) only [↓sxw,sxw,tf11,sxu,sxl,sxm,simprocAttr,dn]
  try rfl
 | false=>
 obtain ⟨hsm,hok,hmb,hbb⟩:=hb rfl
 have hE:=hrsE_of hok hmb (base:=bs) (by omega)
 have hho:=hho hsm
 have hga:=hga hsm
 have hnb:=hsm.nb
 have hnm:=hsm.nm
 have htl:=hsm.cht.2.1
 have hcal:=hok.cal
 obtain ⟨mn,rfl⟩:∃ A:Nat,mk = A:=⟨mk.toNat,by omega⟩
 obtain ⟨nc2,hnc⟩:∃ n:Nat,x.calls = n:=⟨x.calls.toNat,by omega⟩
 have hwk:=winL_ok (hrsP x (mn:Int) bs) nc2
 have hlL:hrsL x (mn:Int) bs = winL (hrsP x (mn:Int) bs) nc2:=by unfold hrsL; rw [hnc,Int.toNat_natCast]
 have hll:=winL_len (hrsP x (mn:Int) bs) nc2
 rw [← hlL] at hwk hll
 obtain ⟨l,hl⟩:∃ l,hrsL x (mn:Int) bs = l:=⟨_,rfl⟩
 rw [hl] at hwk hll
 rw [hE,hl] at hho
 obtain ⟨hord,hany⟩:=hwk
 have hany:∀ c:Nat,c < nc2 → l.any (inW (c:Int)) = !rchB x mn c (setI [bs]):=fun c hc=>by
  rw [hany c,decide_eq_true hc,Bool.true_and]
  unfold hrsP
  rw [Int.toNat_natCast]
 refine ⟨?_⟩
 simp (config := { maxSteps := 4000000 }) only [↓sxw,sxw,tf11,sxu,sxl,sxm,simprocAttr,dn]
 refine CallOb.pureH (fun w' hp=>hho _ w' hp) ?_
 rintro r N (⟨h,_⟩ | ⟨_,vA,rfl,hg⟩)
 ·exact absurd rfl h
 have hgs:=hg.shape
 obtain ⟨aG,cG,rfl⟩:=hgs
 have hrL:=fun G (hG:∀ g ∈ N,g ∈ G)=>hg.rdv (w0:=⟨w,fun _=>False⟩) (H:=G) spc_len hG
 refine ⟨?_⟩
 simp (config := { maxSteps := 4000000 }) only [↓sxw,sxw,tf11,sxu,sxl,sxm,simprocAttr,dn]
 refine loop_constH N (by first | exact HImp.refl _ _ | (simp only [List.append_nil]; exact HImp.refl _ _)) [(4,4),(7,7),(55,108)] (fun i:Nat=>[(7,I i)]) (fun i H1=>i ≤ l.length ∧ ∀ g ∈ N,g ∈ H1) (fun i=>l.length - i) 0 ?_ ⟨Nat.zero_le _,fun g hg=>hg⟩ ?_
 ·simp (config := { maxSteps := 4000000 }) only [↓sxw,sxw,tf11,sxu,sxl,sxm,simprocAttr]
  try simp
 rintro i H1 g1 ⟨hi,hH1⟩
 have hrL1:=hrL H1 hH1
 by_cases hin:i = l.length
 case neg=>
  have e7:((i:Int) < (l.length:Int)) = True:=eq_true (by omega)
  have e8:wr (i + 1) = ((i + 1:Nat):Int):=(wrap_id (by omega)).trans (by omega)
  obtain ⟨u,hu⟩:∃ u,l[i]? = some u:=⟨_,List.getElem?_eq_getElem (by omega)⟩
  obtain ⟨o1,o2,o3,o4⟩:=hord i u hu
  obtain ⟨lo,hi2⟩:=u
  simp only [] at o1 o2 o3 o4
  have y1:(lo < 0) = False:=eq_false (by omega)
  have y2:(lo > hi2) = False:=eq_false (by omega)
  have y3:(hi2 ≥ x.calls) = False:=eq_false (by omega)
  by_cases h0:i = 0
  ·have y4:((i:Int) > 0) = False:=eq_false (by omega)
   refine ⟨?_⟩
   simp (config := { maxSteps := 4000000 }) only [↓sxw,sxw,tf11,sxu,sxl,sxm,simprocAttr,e7,dn,pl11_lk,pl11_9]
   first | refine amid (at_f hrL1 spc_len hu (o:=0) (x:=I lo) rfl fun ad=>?_) | refine at_f hrL1 spc_len hu (o:=0) (x:=I lo) rfl fun ad=>?_ | refine (at_f hrL1 spc_len hu (o:=0) (x:=I lo) rfl fun ad=>?_).2.2 | refine (at_f hrL1 spc_len hu (o:=0) (x:=I lo) rfl fun ad=>?_).2
   simp (config := { maxSteps := 4000000 }) only [↓sxw,sxw,tf11,sxu,sxl,sxm,simprocAttr,y1,e7,dn,pl11_lk,pl11_9]
   first | refine amid (at_f hrL1 spc_len hu (o:=0) (x:=I lo) rfl fun ad=>?_) | refine at_f hrL1 spc_len hu (o:=0) (x:=I lo) rfl fun ad=>?_ | refine (at_f hrL1 spc_len hu (o:=0) (x:=I lo) rfl fun ad=>?_).2.2 | refine (at_f hrL1 spc_len hu (o:=0) (x:=I lo) rfl fun ad=>?_).2
   simp (config := { maxSteps := 4000000 }) only [↓sxw,sxw,tf11,sxu,sxl,sxm,simprocAttr,y1,e7,dn,pl11_lk,pl11_9]
   first | refine amid (at_f hrL1 spc_len hu (o:=1) (x:=I hi2) rfl fun ad=>?_) | refine at_f hrL1 spc_len hu (o:=1) (x:=I hi2) rfl fun ad=>?_ | refine (at_f hrL1 spc_len hu (o:=1) (x:=I hi2) rfl fun ad=>?_).2.2 | refine (at_f hrL1 spc_len hu (o:=1) (x:=I hi2) rfl fun ad=>?_).2
   simp (config := { maxSteps := 4000000 }) only [↓sxw,sxw,tf11,sxu,sxl,sxm,simprocAttr,y1,y2,e7,dn,pl11_lk,pl11_9]
   first | refine amid (at_f hrL1 spc_len hu (o:=1) (x:=I hi2) rfl fun ad=>?_) | refine at_f hrL1 spc_len hu (o:=1) (x:=I hi2) rfl fun ad=>?_ | refine (at_f hrL1 spc_len hu (o:=1) (x:=I hi2) rfl fun ad=>?_).2.2 | refine (at_f hrL1 spc_len hu (o:=1) (x:=I hi2) rfl fun ad=>?_).2
   simp (config := { maxSteps := 4000000 }) only [↓sxw,sxw,tf11,sxu,sxl,sxm,simprocAttr,y1,y2,y3,y4,e7,e8,dn,pl11_lk,pl11_9]
   exact ⟨i + 1,_,rfl,HImp.refl _ _,⟨by omega,hH1⟩,by omega⟩
  have y4:((i:Int) > 0) = True:=eq_true (by omega)
  obtain ⟨up,hup⟩:∃ u,l[i - 1]? = some u:=⟨_,List.getElem?_eq_getElem (by omega)⟩
  have o5:=o4 up (by omega) hup
  have o6:=(hord (i - 1) up hup).2.2.1
  have o7:=(hord (i - 1) up hup).1
  have o8:=(hord (i - 1) up hup).2.1
  obtain ⟨lp,hp2⟩:=up
  simp only [] at o5 o6 o7 o8
  have e9:wr ((i:Int) - 1) = ((i - 1:Nat):Int):=(wrap_id (by omega)).trans (by omega)
  have e10:wr (hp2 + 1) = hp2 + 1:=wrap_id (by omega)
  have e11:(((i - 1:Nat):Int) < (l.length:Int)) = True:=eq_true (by omega)
  have y5:(lo ≤ hp2 + 1) = False:=eq_false (by omega)
  refine ⟨?_⟩
  simp (config := { maxSteps := 4000000 }) only [↓sxw,sxw,tf11,sxu,sxl,sxm,simprocAttr,e7,dn,pl11_lk,pl11_9]
  first | refine amid (at_f hrL1 spc_len hu (o:=0) (x:=I lo) rfl fun ad=>?_) | refine at_f hrL1 spc_len hu (o:=0) (x:=I lo) rfl fun ad=>?_ | refine (at_f hrL1 spc_len hu (o:=0) (x:=I lo) rfl fun ad=>?_).2.2 | refine (at_f hrL1 spc_len hu (o:=0) (x:=I lo) rfl fun ad=>?_).2
  simp (config := { maxSteps := 4000000 }) only [↓sxw,sxw,tf11,sxu,sxl,sxm,simprocAttr,y1,e7,dn,pl11_lk,pl11_9]
  first | refine amid (at_f hrL1 spc_len hu (o:=0) (x:=I lo) rfl fun ad=>?_) | refine at_f hrL1 spc_len hu (o:=0) (x:=I lo) rfl fun ad=>?_ | refine (at_f hrL1 spc_len hu (o:=0) (x:=I lo) rfl fun ad=>?_).2.2 | refine (at_f hrL1 spc_len hu (o:=0) (x:=I lo) rfl fun ad=>?_).2
  simp (config := { maxSteps := 4000000 }) only [↓sxw,sxw,tf11,sxu,sxl,sxm,simprocAttr,y1,e7,dn,pl11_lk,pl11_9]
  first | refine amid (at_f hrL1 spc_len hu (o:=1) (x:=I hi2) rfl fun ad=>?_) | refine at_f hrL1 spc_len hu (o:=1) (x:=I hi2) rfl fun ad=>?_ | refine (at_f hrL1 spc_len hu (o:=1) (x:=I hi2) rfl fun ad=>?_).2.2 | refine (at_f hrL1 spc_len hu (o:=1) (x:=I hi2) rfl fun ad=>?_).2
  simp (config := { maxSteps := 4000000 }) only [↓sxw,sxw,tf11,sxu,sxl,sxm,simprocAttr,y1,y2,e7,dn,pl11_lk,pl11_9]
  first | refine amid (at_f hrL1 spc_len hu (o:=1) (x:=I hi2) rfl fun ad=>?_) | refine at_f hrL1 spc_len hu (o:=1) (x:=I hi2) rfl fun ad=>?_ | refine (at_f hrL1 spc_len hu (o:=1) (x:=I hi2) rfl fun ad=>?_).2.2 | refine (at_f hrL1 spc_len hu (o:=1) (x:=I hi2) rfl fun ad=>?_).2
  simp (config := { maxSteps := 4000000 }) only [↓sxw,sxw,tf11,sxu,sxl,sxm,simprocAttr,y1,y2,y3,y4,e7,dn,pl11_lk,pl11_9]
  first | refine amid (at_f hrL1 spc_len hu (o:=0) (x:=I lo) rfl fun ad=>?_) | refine at_f hrL1 spc_len hu (o:=0) (x:=I lo) rfl fun ad=>?_ | refine (at_f hrL1 spc_len hu (o:=0) (x:=I lo) rfl fun ad=>?_).2.2 | refine (at_f hrL1 spc_len hu (o:=0) (x:=I lo) rfl fun ad=>?_).2
  simp (config := { maxSteps := 4000000 }) only [↓sxw,sxw,tf11,sxu,sxl,sxm,simprocAttr,y1,y2,y3,y4,e7,e9,dn,pl11_lk,pl11_9]
  first | refine amid (at_f hrL1 spc_len hup (o:=1) (x:=I hp2) rfl fun ad=>?_) | refine at_f hrL1 spc_len hup (o:=1) (x:=I hp2) rfl fun ad=>?_ | refine (at_f hrL1 spc_len hup (o:=1) (x:=I hp2) rfl fun ad=>?_).2.2 | refine (at_f hrL1 spc_len hup (o:=1) (x:=I hp2) rfl fun ad=>?_).2
  simp (config := { maxSteps := 4000000 }) only [↓sxw,sxw,tf11,sxu,sxl,sxm,simprocAttr,y5,e10,e8,dn,pl11_lk,pl11_9]
  exact ⟨i + 1,_,rfl,HImp.refl _ _,⟨by omega,hH1⟩,by omega⟩
 have e7:((i:Int) < (l.length:Int)) = False:=eq_false (by omega)
 refine ⟨?_⟩
 simp (config := { maxSteps := 4000000 }) only [↓sxw,sxw,tf11,sxu,sxl,sxm,simprocAttr,e7,dn]
 refine loop_constH H1 (HImp.refl _ _) [(4,4),(8,13),(109,176)] (fun c:Nat=>[(8,I c)]) (fun c H1=>c ≤ nc2 ∧ ∀ g ∈ N,g ∈ H1) (fun c=>nc2 - c) 0 ?_ ⟨Nat.zero_le _,hH1⟩ ?_
 ·simp (config := { maxSteps := 4000000 }) only [↓sxw,sxw,tf11,sxu,sxl,sxm,simprocAttr]
  try simp
 rintro c H2 g2 ⟨hc,hH2⟩
 by_cases hcn:c = nc2
 ·have f7:((c:Int) < x.calls) = False:=eq_false (by omega)
  refine ⟨?_⟩
  simp (config := { maxSteps := 4000000 }) only [↓sxw,sxw,tf11,sxu,sxl,sxm,simprocAttr,f7,dn]
  refine CallOb.pureH (fun w' hp=>hwo _ w' hp) ?_
  rintro r N5 rfl
  refine ⟨?_⟩
  simp (config := { maxSteps := 4000000 }) only [↓sxw,sxw,tf11,sxu,sxl,sxm,simprocAttr,dn]
  try rfl
 have f7:((c:Int) < x.calls) = True:=eq_true (by omega)
 have f8:wr (c + 1) = ((c + 1:Nat):Int):=(wrap_id (by omega)).trans (by omega)
 have hga:=hga (c:Int)
 have hcE:=calE_of hok (call:=(c:Int)) (by omega) (by omega)
 have hgap:=fun b hb=>gap_iff (x:=x) (call:=(c:Int)) (k:=mn) (by omega) (base:=b) hb
 have hgl:=gapK_small hsm (c:Int)
 have hanc:=hany c (by omega)
 have hmon:=fun h b hb=>rch_mono (x:=x) (k:=mn) (call:=(c:Int)) h (base:=b) hb
 obtain ⟨GL,hGL⟩:∃ L,gapK x (c:Int) x.marks.length = L:=⟨_,rfl⟩
 rw [hGL] at hgl
 simp only [hGL] at hgap
 rw [hcE,hGL] at hga
 obtain ⟨RC,hRC⟩:∃ RC:Int → Bool,∀ b,rchB x mn (c:Int) (setI [b]) = RC b:=⟨_,fun _=>rfl⟩
 simp only [hRC] at hgap hanc hmon
 have hdec:∀ b:Int,(-1 ≤ b ∧ b < (x.bases.length:Int)) → decide (((mn:Int),b) ∈ GL) = !RC b:=fun b hb=>by
  cases h:RC b with
  | true=>rw [decide_eq_false fun h2=>by rw [hgap b hb,h] at h2; cases h2]; rfl
  | false=>rw [decide_eq_true ((hgap b hb).2 h)]; rfl
 refine ⟨?_⟩
 simp (config := { maxSteps := 4000000 }) only [↓sxw,sxw,tf11,sxu,sxl,sxm,simprocAttr,f7,dn]
 refine CallOb.pureH (fun w' hp=>hga _ w' hp) ?_
 rintro r N2 (⟨h,_⟩ | ⟨_,vB,rfl,hg2⟩)
 ·exact absurd rfl h
 have hgs2:=hg2.shape
 obtain ⟨aE,cE,rfl⟩:=hgs2
 have hpa:=fun (b:Int) (hb:-1 ≤ b ∧ b < (x.bases.length:Int)) (H:List HO) (hH:∀ g ∈ N2,g ∈ H) w' (hp:Hp ⟨w,fun _=>False⟩ H w')=>Fn.mono (pair_fn w' _ GL (hg2.hp hH hp) (by omega) (mn:Int) b) (Post':=fun r N=>r = .bool (!RC b)) fun r N h=>by rw [h,hdec b hb]
 have hH3:(∀ g ∈ N,g ∈ N2 ++ H2) ∧ ∀ g ∈ N2,g ∈ N2 ++ H2:=⟨fun g hg=>List.mem_append_right _ (hH2 g hg),fun g hg=>List.mem_append_left _ hg⟩
 obtain ⟨FF,hF0,hFs,hFl⟩:∃ FF:Nat → Bool,FF 0 = false ∧ (∀ k u,l[k]? = some u → FF (k + 1) = (FF k || inW (c:Int) u)) ∧ FF l.length = !RC bs:=by
  refine ⟨fun k=>(l.take k).any (inW (c:Int)),rfl,fun k u hu=>?_,?_⟩
  ·show (l.take (k + 1)).any _ = _
   rw [List.take_succ,hu,List.any_append]
   simp
  ·show (l.take l.length).any _ = _
   rw [List.take_length,hanc]
 refine ⟨?_⟩
 simp (config := { maxSteps := 4000000 }) only [↓sxw,sxw,tf11,sxu,sxl,sxm,simprocAttr,dn]
 refine loop_constH (N2 ++ H2) (HImp.refl _ _) [(11,12),(121,145)] (fun i:Nat=>[(11,.bool (FF i)),(12,I i)]) (fun i H1=>i ≤ l.length ∧ (∀ g ∈ N,g ∈ H1) ∧ ∀ g ∈ N2,g ∈ H1) (fun i=>l.length - i) 0 ?_ ⟨Nat.zero_le _,hH3⟩ ?_
 ·simp (config := { maxSteps := 4000000 }) only [↓sxw,sxw,tf11,sxu,sxl,sxm,simprocAttr]
  first | exact ⟨by rw [hF0],rfl⟩ | (rw [hF0]; done) | (rw [hF0]; try simp)
 rintro j H3 g3 ⟨hj,hJN,hJ2⟩
 have hrL1:=hrL H3 hJN
 by_cases hjn:j = l.length
 case neg=>
  have k7:((j:Int) < (l.length:Int)) = True:=eq_true (by omega)
  have k8:wr (j + 1) = ((j + 1:Nat):Int):=(wrap_id (by omega)).trans (by omega)
  obtain ⟨u,hu⟩:∃ u,l[j]? = some u:=⟨_,List.getElem?_eq_getElem (by omega)⟩
  have hFj:=hFs j u hu
  obtain ⟨lo,hi2⟩:=u
  cases hfb:FF j with
  | true=>
   rw [hfb,Bool.true_or] at hFj
   refine ⟨?_⟩
   simp (config := { maxSteps := 4000000 }) only [↓sxw,sxw,tf11,sxu,sxl,sxm,simprocAttr,k7,k8,dn]
   exact ⟨j + 1,_,by first | exact ⟨by rw [hFj],rfl⟩ | (rw [hFj]; done) | (rw [hFj]; try simp),HImp.refl _ _,⟨by omega,hJN,hJ2⟩,by omega⟩
  | false=>
  rw [hfb,Bool.false_or] at hFj
  by_cases q1:lo ≤ (c:Int)
  case neg=>
   have y1:(lo ≤ (c:Int)) = False:=eq_false q1
   have hw0:inW (c:Int) (lo,hi2) = false:=by unfold inW; simp [q1]
   rw [hw0] at hFj
   refine ⟨?_⟩
   simp (config := { maxSteps := 4000000 }) only [↓sxw,sxw,tf11,sxu,sxl,sxm,simprocAttr,k7,dn]
   first | refine amid (at_f hrL1 spc_len hu (o:=0) (x:=I lo) rfl fun ad=>?_) | refine at_f hrL1 spc_len hu (o:=0) (x:=I lo) rfl fun ad=>?_ | refine (at_f hrL1 spc_len hu (o:=0) (x:=I lo) rfl fun ad=>?_).2.2 | refine (at_f hrL1 spc_len hu (o:=0) (x:=I lo) rfl fun ad=>?_).2
   simp (config := { maxSteps := 4000000 }) only [↓sxw,sxw,tf11,sxu,sxl,sxm,simprocAttr,y1,k8,dn]
   exact ⟨j + 1,_,by first | exact ⟨by rw [hFj],rfl⟩ | (rw [hFj]; done) | (rw [hFj]; try simp),HImp.refl _ _,⟨by omega,hJN,hJ2⟩,by omega⟩
  have y1:(lo ≤ (c:Int)) = True:=eq_true q1
  by_cases q2:(c:Int) ≤ hi2
  case neg=>
   have y2:((c:Int) ≤ hi2) = False:=eq_false q2
   have hw0:inW (c:Int) (lo,hi2) = false:=by unfold inW; simp [q2]
   rw [hw0] at hFj
   refine ⟨?_⟩
   simp (config := { maxSteps := 4000000 }) only [↓sxw,sxw,tf11,sxu,sxl,sxm,simprocAttr,k7,dn]
   first | refine amid (at_f hrL1 spc_len hu (o:=0) (x:=I lo) rfl fun ad=>?_) | refine at_f hrL1 spc_len hu (o:=0) (x:=I lo) rfl fun ad=>?_ | refine (at_f hrL1 spc_len hu (o:=0) (x:=I lo) rfl fun ad=>?_).2.2 | refine (at_f hrL1 spc_len hu (o:=0) (x:=I lo) rfl fun ad=>?_).2
   simp (config := { maxSteps := 4000000 }) only [↓sxw,sxw,tf11,sxu,sxl,sxm,simprocAttr,y1,k7,dn]
   first | refine amid (at_f hrL1 spc_len hu (o:=1) (x:=I hi2) rfl fun ad=>?_) | refine at_f hrL1 spc_len hu (o:=1) (x:=I hi2) rfl fun ad=>?_ | refine (at_f hrL1 spc_len hu (o:=1) (x:=I hi2) rfl fun ad=>?_).2.2 | refine (at_f hrL1 spc_len hu (o:=1) (x:=I hi2) rfl fun ad=>?_).2
   simp (config := { maxSteps := 4000000 }) only [↓sxw,sxw,tf11,sxu,sxl,sxm,simprocAttr,y2,k8,dn]
   exact ⟨j + 1,_,by first | exact ⟨by rw [hFj],rfl⟩ | (rw [hFj]; done) | (rw [hFj]; try simp),HImp.refl _ _,⟨by omega,hJN,hJ2⟩,by omega⟩
  have y2:((c:Int) ≤ hi2) = True:=eq_true q2
  have hw1:inW (c:Int) (lo,hi2) = true:=by unfold inW; simp [q1,q2]
  rw [hw1] at hFj
  refine ⟨?_⟩
  simp (config := { maxSteps := 4000000 }) only [↓sxw,sxw,tf11,sxu,sxl,sxm,simprocAttr,k7,dn]
  first | refine amid (at_f hrL1 spc_len hu (o:=0) (x:=I lo) rfl fun ad=>?_) | refine at_f hrL1 spc_len hu (o:=0) (x:=I lo) rfl fun ad=>?_ | refine (at_f hrL1 spc_len hu (o:=0) (x:=I lo) rfl fun ad=>?_).2.2 | refine (at_f hrL1 spc_len hu (o:=0) (x:=I lo) rfl fun ad=>?_).2
  simp (config := { maxSteps := 4000000 }) only [↓sxw,sxw,tf11,sxu,sxl,sxm,simprocAttr,y1,k7,dn]
  first | refine amid (at_f hrL1 spc_len hu (o:=1) (x:=I hi2) rfl fun ad=>?_) | refine at_f hrL1 spc_len hu (o:=1) (x:=I hi2) rfl fun ad=>?_ | refine (at_f hrL1 spc_len hu (o:=1) (x:=I hi2) rfl fun ad=>?_).2.2 | refine (at_f hrL1 spc_len hu (o:=1) (x:=I hi2) rfl fun ad=>?_).2
  simp (config := { maxSteps := 4000000 }) only [↓sxw,sxw,tf11,sxu,sxl,sxm,simprocAttr,y2,k8,dn]
  exact ⟨j + 1,_,by first | exact ⟨by rw [hFj],rfl⟩ | (rw [hFj]; done) | (rw [hFj]; try simp),HImp.refl _ _,⟨by omega,hJN,hJ2⟩,by omega⟩
 have k7:((j:Int) < (l.length:Int)) = False:=eq_false (by omega)
 have hFe:FF j = !RC bs:=by rw [hjn,hFl]
 rw [hFe]
 have hp1:=hpa bs (by omega) H3 hJ2
 obtain ⟨RB,hRB⟩:∃ b,RC bs = b:=⟨_,rfl⟩
 simp only [hRB] at hp1
 rw [hRB]
 refine ⟨?_⟩
 simp (config := { maxSteps := 4000000 }) only [↓sxw,sxw,tf11,sxu,sxl,sxm,simprocAttr,k7,dn]
 refine CallOb.pureH (fun w' hp=>hp1 w' hp) ?_
 rintro r N6 rfl
 have hH6:(∀ g ∈ N,g ∈ N6 ++ H3) ∧ ∀ g ∈ N2,g ∈ N6 ++ H3:=⟨fun g hg=>List.mem_append_right _ (hJN g hg),fun g hg=>List.mem_append_right _ (hJ2 g hg)⟩
 have y5:((!RB) != (!RB)) = false:=by cases RB <;> rfl
 refine ⟨?_⟩
 simp (config := { maxSteps := 4000000 }) only [↓sxw,sxw,tf11,sxu,sxl,sxm,simprocAttr,y5,dn]
 refine loop_constH (N6 ++ H3) (HImp.refl _ _) [(4,4),(13,13),(158,176)] (fun i:Nat=>[(13,I i)]) (fun i H1=>i ≤ pb.length ∧ (∀ g ∈ N,g ∈ H1) ∧ ∀ g ∈ N2,g ∈ H1) (fun i=>pb.length - i) 0 ?_ ⟨Nat.zero_le _,hH6⟩ ?_
 ·simp (config := { maxSteps := 4000000 }) only [↓sxw,sxw,tf11,sxu,sxl,sxm,simprocAttr]
  try simp
 rintro m H7 g7 ⟨hm,hMN,hM2⟩
 by_cases hmn:m = pb.length
 ·have m7:((m:Int) < (pb.length:Int)) = False:=eq_false (by omega)
  refine ⟨?_⟩
  simp (config := { maxSteps := 4000000 }) only [↓sxw,sxw,tf11,sxu,sxl,sxm,simprocAttr,m7,f8,dn]
  exact ⟨c + 1,_,rfl,HImp.refl _ _,⟨by omega,hMN⟩,by omega⟩
 have m7:((m:Int) < (pb.length:Int)) = True:=eq_true (by omega)
 have m8:wr (m + 1) = ((m + 1:Nat):Int):=(wrap_id (by omega)).trans (by omega)
 have hp2:=hpa (-1) (by omega) H7 hM2
 have hp3:=fun N8=>hpa (m:Int) (by omega) (N8 ++ H7) fun g hg=>List.mem_append_right _ (hM2 g hg)
 cases hR1:RC (-1) with
 | true=>
  simp only [hR1] at hp2
  refine ⟨?_⟩
  simp (config := { maxSteps := 4000000 }) only [↓sxw,sxw,tf11,sxu,sxl,sxm,simprocAttr,m7,dn]
  refine CallOb.pureH (fun w' hp=>hp2 w' hp) ?_
  rintro r N8 rfl
  refine ⟨?_⟩
  simp (config := { maxSteps := 4000000 }) only [↓sxw,sxw,tf11,sxu,sxl,sxm,simprocAttr,m8,dn]
  exact ⟨m + 1,_,rfl,HImp.app _ _ _,⟨by omega,hMN,hM2⟩,by omega⟩
 | false=>
  have hR2:=hmon hR1 (m:Int) (by omega)
  simp only [hR1] at hp2
  simp only [hR2] at hp3
  refine ⟨?_⟩
  simp (config := { maxSteps := 4000000 }) only [↓sxw,sxw,tf11,sxu,sxl,sxm,simprocAttr,m7,dn]
  refine CallOb.pureH (fun w' hp=>hp2 w' hp) ?_
  rintro r N8 rfl
  refine ⟨?_⟩
  simp (config := { maxSteps := 4000000 }) only [↓sxw,sxw,tf11,sxu,sxl,sxm,simprocAttr,m7,dn]
  refine CallOb.pureH (fun w' hp=>hp3 N8 w' hp) ?_
  rintro r N9 rfl
  refine ⟨?_⟩
  simp (config := { maxSteps := 4000000 }) only [↓sxw,sxw,tf11,sxu,sxl,sxm,simprocAttr,m8,dn]
  exact ⟨m + 1,_,rfl,(HImp.app _ _ _).trans (HImp.app _ _ _),⟨by omega,hMN,hM2⟩,by omega⟩
end Go.Proofs.YtljpknnhimkkjaaGreatDoor
