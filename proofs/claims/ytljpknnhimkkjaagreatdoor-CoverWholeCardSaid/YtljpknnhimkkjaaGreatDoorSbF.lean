/- A part of a proof: the symbolic walk and what it shows of single functions. -/
import Derived.Test.YtljpknnhimkkjaaGreatDoorH5
set_option linter.all false
namespace Go.Proofs.YtljpknnhimkkjaaGreatDoor
open Go.RowKit Go.SX
set_option maxRecDepth 10000
set_option maxHeartbeats 0
set_option linter.unusedSimpArgs false
set_option linter.unusedVariables false
theorem coverWhole_fn (w:World) (hw:Ways w) (v:Value) (x:Cst) (hx:CoOk w v x) (mk bs call:Int) (vs:Value) (ls:List Int) (hls:Sl w vs 1 (ints ls)):SX.Fn Tryz.prog 5 [v,.agg #[I mk,I bs,I call,vs]] w (fun _=>False) fun r N=>r = .bool true:=by
 have dn:∀ (g:Nat) (xs:List Value),det0 g xs = none:=fun _ _=>rfl
 obtain ⟨aV,nV,cV,rfl⟩:=hls.shape
 have hva:=fun (H:List HO) w' (hp:Hp ⟨w,fun _=>False⟩ H w')=>valid8_fn w' (hw.hp hp) v x (hx.hp hp)
 have hwo:=fun (H:List HO) w' (hp:Hp ⟨w,fun _=>False⟩ H w')=>works8_fn w' (hw.hp hp)
 have hga:=fun (hsm:x.small) (H:List HO) w' (hp:Hp ⟨w,fun _=>False⟩ H w')=>Gaps_fn w' (hw.hp hp) v x (hx.hp hp) hsm call
 obtain ⟨sD,sT,sS,vb,vm,pb,rfl,hC,h2,h3,h4,h5⟩:=hx
 have hmu:=fun (hsm:x.small) (p:Bm) (hpm:p ∈ pb) (H:List HO) w' (hp:Hp ⟨w,fun _=>False⟩ H w')=>muster1_fn w' _ p.1.stn ((h4 p hpm).hp hp).1 (hsm.bas p.1 (by rw [← h2]; exact List.mem_map_of_mem hpm)).1 call p.2.2 p.1.seats ((h4 p hpm).hp hp).2 (by have:=(hsm.bas p.1 (by rw [← h2]; exact List.mem_map_of_mem hpm)).2; omega) x.length
 have hre:=fun (hsm:x.small) (p:Bm) (t:Int) (H:List HO) w' (hp:Hp ⟨w,fun _=>False⟩ H w')=>lreach_fn w' (hw.hp hp) _ x.cht (hC.hp hp) hsm.cht p.1.cls p.1.rmp t
 have hone:=fun (p:Bm) (hp:p ∈ pb)=>bac_one (h4 p hp)
 have hpl:pb.length = x.bases.length:=by rw [← h2,List.length_map]
 obtain ⟨hD,hT,hS⟩:=hC.parts
 obtain ⟨aD,nD,cD,rfl⟩:=hD.shape
 have hn1:=hD.le i1_len (by omega)
 obtain ⟨aS,nS,cS,rfl⟩:=hS.shape
 obtain ⟨aT,nT,cT,rfl⟩:=hT.shape
 have hn2:=hT.le spc_len (by omega)
 obtain ⟨aB,nB,cB,rfl⟩:=h3.shape
 have hn4:=h3.le bac_len (by omega)
 obtain ⟨aM,nM,cM,rfl⟩:=h5.shape
 have hn5:=h5.le spc_len (by omega)
 subst hn1 hn2 hn4 hn5
 have hrB:=fun H=>h3.rd0 H
 have hrM:=fun H=>h5.rd0 H
 unfold VldP at hva
 unfold GapP at hga
 unfold TLE snv at hmu
 unfold ReachP at hre
 unfold clv rmv at hre
 unfold cov at hva hga ⊢
 refine walkC [3,27] [] [] (det0_ok _ _) Tryz.func5 rfl Tryz.ntmps5 res5 (by kernel_rfl) no_facts ?_
 simp (config := { maxSteps := 4000000 }) only [↓sxw,sxw,tf5,sxu,sxl,sxm,simprocAttr,dn]
 refine cut_constH [(18,58)] (fun b:Bool=>[(58,.bool b)]) (fun b H2=>H2 = [] ∧ (b = false → x.small ∧ x.ok ∧ (0 ≤ mk ∧ mk < x.marks.length) ∧ (-1 ≤ bs ∧ bs < pb.length) ∧ 0 ≤ call ∧ call < x.calls)) ?_ ?_
 ·refine ⟨?_⟩
  simp (config := { maxSteps := 4000000 }) only [↓sxw,sxw,tf5,sxu,sxl,sxm,simprocAttr,dn]
  refine CallOb.pureH (fun w' hp=>hva _ w' hp) ?_
  rintro r N ⟨b,rfl,hb⟩
  cases b with
  | false=>
   refine ⟨?_⟩
   simp (config := { maxSteps := 4000000 }) only [↓sxw,sxw,tf5,sxu,sxl,sxm,simprocAttr,dn]
   exact ⟨true,_,rfl,HImp.nil _ _,rfl,fun h=>by cases h⟩
  | true=>
  obtain ⟨hsm,hok,_⟩:=hb rfl
  by_cases c0:mk < 0
  ·have z0:(mk < 0) = True:=eq_true c0
   refine ⟨?_⟩
   simp (config := { maxSteps := 4000000 }) only [↓sxw,sxw,tf5,sxu,sxl,sxm,simprocAttr,z0,dn]
   exact ⟨true,_,rfl,HImp.nil _ _,rfl,fun h=>by cases h⟩
  have z0:(mk < 0) = False:=eq_false c0
  by_cases c1:mk ≥ (x.marks.length:Int)
  ·have z1:(mk ≥ (x.marks.length:Int)) = True:=eq_true c1
   refine ⟨?_⟩
   simp (config := { maxSteps := 4000000 }) only [↓sxw,sxw,tf5,sxu,sxl,sxm,simprocAttr,z0,z1,dn]
   exact ⟨true,_,rfl,HImp.nil _ _,rfl,fun h=>by cases h⟩
  have z1:(mk ≥ (x.marks.length:Int)) = False:=eq_false c1
  by_cases c2:bs < -1
  ·have z2:(bs < -1) = True:=eq_true c2
   refine ⟨?_⟩
   simp (config := { maxSteps := 4000000 }) only [↓sxw,sxw,tf5,sxu,sxl,sxm,simprocAttr,z0,z1,z2,dn]
   exact ⟨true,_,rfl,HImp.nil _ _,rfl,fun h=>by cases h⟩
  have z2:(bs < -1) = False:=eq_false c2
  by_cases c3:bs ≥ (pb.length:Int)
  ·have z3:(bs ≥ (pb.length:Int)) = True:=eq_true c3
   refine ⟨?_⟩
   simp (config := { maxSteps := 4000000 }) only [↓sxw,sxw,tf5,sxu,sxl,sxm,simprocAttr,z0,z1,z2,z3,dn]
   exact ⟨true,_,rfl,HImp.nil _ _,rfl,fun h=>by cases h⟩
  have z3:(bs ≥ (pb.length:Int)) = False:=eq_false c3
  by_cases c4:call < 0
  ·have z4:(call < 0) = True:=eq_true c4
   refine ⟨?_⟩
   simp (config := { maxSteps := 4000000 }) only [↓sxw,sxw,tf5,sxu,sxl,sxm,simprocAttr,z0,z1,z2,z3,z4,dn]
   exact ⟨true,_,rfl,HImp.nil _ _,rfl,fun h=>by cases h⟩
  have z4:(call < 0) = False:=eq_false c4
  by_cases c5:call ≥ x.calls
  ·have z5:(call ≥ x.calls) = True:=eq_true c5
   refine ⟨?_⟩
   simp (config := { maxSteps := 4000000 }) only [↓sxw,sxw,tf5,sxu,sxl,sxm,simprocAttr,z0,z1,z2,z3,z4,z5,dn]
   exact ⟨true,_,rfl,HImp.nil _ _,rfl,fun h=>by cases h⟩
  have z5:(call ≥ x.calls) = False:=eq_false c5
  refine ⟨?_⟩
  simp (config := { maxSteps := 4000000 }) only [↓sxw,sxw,tf5,sxu,sxl,sxm,simprocAttr,z0,z1,z2,z3,z4,z5,dn]
  exact ⟨false,_,rfl,HImp.nil _ _,rfl,fun _=>⟨hsm,hok,⟨by omega,by omega⟩,⟨by omega,by omega⟩,by omega,by omega⟩⟩
 rintro b H2 g2 ⟨rfl,hb⟩
 cases b with
 | true=>
  refine ⟨?_⟩
  simp (config := { maxSteps := 4000000 }) only [↓sxw,sxw,tf5,sxu,sxl,sxm,simprocAttr,dn]
  refine CallOb.pureH (fun w' hp=>hwo _ w' hp) ?_
  rintro r N rfl
  refine ⟨?_⟩
  simp (config := { maxSteps := 4000000 }) only [↓sxw,sxw,tf5,sxu,sxl,sxm,simprocAttr,dn]
  try rfl
 | false=>
 obtain ⟨hsm,hok,⟨hm0,hm1⟩,⟨hb0,hb1⟩,hc0,hc1⟩:=hb rfl
 have hE:=calE_of hok hc0 hc1
 have hga:=hga hsm
 have hmu:=hmu hsm
 have hre:=hre hsm
 have hnb:=hsm.nb
 have hnm:=hsm.nm
 have htl:=hsm.cht.2.1
 have hdl:=hsm.cht.1
 have hcal:=hok.cal
 obtain ⟨mn,rfl⟩:∃ A:Nat,mk = A:=⟨mk.toNat,by omega⟩
 obtain ⟨m,hm⟩:∃ m,x.marks[mn]? = some m:=⟨_,List.getElem?_eq_getElem (by omega)⟩
 obtain ⟨mc,ml⟩:=m
 have hmk:=hok.mar _ (List.mem_of_getElem? hm)
 simp only [] at hmk
 obtain ⟨CL,rfl⟩:∃ A:Nat,mc = A:=⟨mc.toNat,by omega⟩
 have hgap:=gap_iff (x:=x) (call:=call) (k:=mn) (by omega) (base:=bs) ⟨hb0,by omega⟩
 have hgl:=gapK_small hsm call
 obtain ⟨GL,hGL⟩:∃ L,gapK x call x.marks.length = L:=⟨_,rfl⟩
 rw [hGL] at hgap hgl
 rw [hE,hGL] at hga
 have zm:((mn:Int) < (x.marks.length:Int)) = True:=eq_true (by omega)
 have hrch:=rch_set (x:=x) (k:=mn) (call:=call) hb0
 obtain ⟨AA,hA0,hAs,hAl⟩:∃ AA:Nat → Bool,AA 0 = false ∧ (∀ i,AA (i + 1) = (AA i || (!decide ((i:Int) = bs) && hitB x call mn i))) ∧ AA x.bases.length = rchB x mn call (setI [bs]):=by
  refine ⟨fun i=>(List.range i).any fun i=>!decide ((i:Int) = bs) && hitB x call mn i,rfl,fun i=>?_,hrch.symm⟩
  show (List.range (i + 1)).any _ = _
  rw [List.range_succ,List.any_append]
  simp
 obtain ⟨RB,hRB⟩:∃ b,rchB x mn call (setI [bs]) = b:=⟨_,rfl⟩
 rw [hRB] at hgap hAl
 refine ⟨?_⟩
 simp (config := { maxSteps := 4000000 }) only [↓sxw,sxw,tf5,sxu,sxl,sxm,simprocAttr,dn]
 refine CallOb.pureH (fun w' hp=>hga _ w' hp) ?_
 rintro r N (⟨h,_⟩ | ⟨_,vA,rfl,hg⟩)
 ·exact absurd rfl h
 have hgs:=hg.shape
 obtain ⟨aG,cG,rfl⟩:=hgs
 have hpa:=fun (H:List HO) (hH:∀ g ∈ N,g ∈ H) w' (hp:Hp ⟨w,fun _=>False⟩ H w')=>pair_fn w' _ GL (hg.hp hH hp) (by omega) (mn:Int) bs
 refine ⟨?_⟩
 simp (config := { maxSteps := 4000000 }) only [↓sxw,sxw,tf5,sxu,sxl,sxm,simprocAttr,zm,dn]
 first | refine amid (at_n (hrM _) spc_len (by omega) hm fun ad=>?_) | refine at_n (hrM _) spc_len (by omega) hm fun ad=>?_ | refine (at_n (hrM _) spc_len (by omega) hm fun ad=>?_).2.2 | refine (at_n (hrM _) spc_len (by omega) hm fun ad=>?_).2
 unfold spc
 simp (config := { maxSteps := 4000000 }) only [↓sxw,sxw,tf5,sxu,sxl,sxm,simprocAttr,dn]
 refine loop_constH N (by first | exact HImp.refl _ _ | (simp only [List.append_nil]; exact HImp.refl _ _)) [(4,4),(8,17),(75,171)] (fun i:Nat=>[(8,.bool (AA i)),(9,I i)]) (fun i H1=>i ≤ pb.length ∧ ∀ g ∈ N,g ∈ H1) (fun i=>pb.length - i) 0 ?_ ⟨Nat.zero_le _,fun g hg=>hg⟩ ?_
 ·simp (config := { maxSteps := 4000000 }) only [↓sxw,sxw,tf5,sxu,sxl,sxm,simprocAttr]
  first | exact ⟨by rw [hA0],rfl⟩ | (rw [hA0]; done) | (rw [hA0]; try simp)
 rintro i H1 g1 ⟨hi,hH1⟩
 by_cases hin:i = pb.length
 ·have e7:((i:Int) < (pb.length:Int)) = False:=eq_false (by omega)
  have hAi:AA i = RB:=by rw [hin,hpl,hAl]
  rw [hAi]
  have hp2:=hpa H1 hH1
  have hdec:decide (((mn:Int),bs) ∈ GL) = !RB:=by
   cases RB with
   | true=>rw [decide_eq_false fun h=>by rw [hgap] at h; cases h]; rfl
   | false=>rw [decide_eq_true (hgap.2 rfl)]; rfl
  simp only [hdec] at hp2
  cases RB with
  | true=>
   refine ⟨?_⟩
   simp (config := { maxSteps := 4000000 }) only [↓sxw,sxw,tf5,sxu,sxl,sxm,simprocAttr,e7,dn]
   refine CallOb.pureH (fun w' hp=>hp2 w' hp) ?_
   rintro r N3 rfl
   refine ⟨?_⟩
   simp (config := { maxSteps := 4000000 }) only [↓sxw,sxw,tf5,sxu,sxl,sxm,simprocAttr,dn]
   refine CallOb.pureH (fun w' hp=>hwo _ w' hp) ?_
   rintro r N4 rfl
   refine ⟨?_⟩
   simp (config := { maxSteps := 4000000 }) only [↓sxw,sxw,tf5,sxu,sxl,sxm,simprocAttr,dn]
   try rfl
  | false=>
   refine ⟨?_⟩
   simp (config := { maxSteps := 4000000 }) only [↓sxw,sxw,tf5,sxu,sxl,sxm,simprocAttr,e7,dn]
   refine CallOb.pureH (fun w' hp=>hp2 w' hp) ?_
   rintro r N3 rfl
   refine ⟨?_⟩
   simp (config := { maxSteps := 4000000 }) only [↓sxw,sxw,tf5,sxu,sxl,sxm,simprocAttr,dn]
   refine CallOb.pureH (fun w' hp=>hwo _ w' hp) ?_
   rintro r N4 rfl
   refine ⟨?_⟩
   simp (config := { maxSteps := 4000000 }) only [↓sxw,sxw,tf5,sxu,sxl,sxm,simprocAttr,dn]
   try rfl
 have e7:((i:Int) < (pb.length:Int)) = True:=eq_true (by omega)
 have e8:wr (i + 1) = ((i + 1:Nat):Int):=(wrap_id (by omega)).trans (by omega)
 obtain ⟨p,hp⟩:∃ p,pb[i]? = some p:=⟨_,List.getElem?_eq_getElem (by omega)⟩
 have hy:x.bases[i]? = some p.1:=by rw [← h2,List.getElem?_map,hp]; rfl
 have hpm:=List.mem_of_getElem? hp
 have hym:p.1 ∈ x.bases:=List.mem_of_getElem? hy
 obtain ⟨ho1,ho2⟩:=hone p hpm
 have hmu:=hmu p hpm
 have hre:=hre p
 have hmo:=musE_or (callE_call hok hym hc0 hc1)
 have hmt:=fun h=>musT_bnd (s:=p.1.stn) (call:=call) (seats:=p.1.seats) (len:=x.length) h
 have hA1:=hAs i
 rw [hit_at hy hm,Int.toNat_natCast] at hA1
 have harh:=fun h=>arv_hit (x:=x) (b:=p.1) (call:=call) (cell:=CL) (L:=call + ml) h
 have harn:=fun h=>arv_no (x:=x) (b:=p.1) (call:=call) (cell:=CL) (L:=call + ml) h
 obtain ⟨HV,hHV⟩:∃ b,(decide (arv x p.1 call CL ≠ -1) && decide (arv x p.1 call CL ≤ call + ml)) = b:=⟨_,rfl⟩
 rw [hHV] at hA1
 simp only [hHV] at harh harn
 obtain ⟨ME,hME⟩:∃ e,musE p.1.stn call p.1.seats x.length = e:=⟨_,rfl⟩
 obtain ⟨MT,hMT⟩:∃ e,musT p.1.stn call p.1.seats x.length = e:=⟨_,rfl⟩
 rw [hME,hMT] at hmt
 simp only [hME,hMT] at harh harn
 simp only [hME,hMT] at hmu
 rw [hME] at hmo
 have hsta:∀ t:Int,0 ≤ t → t < x.cht.tide.length → staE x.cht p.1.cls p.1.rmp t 0 = 0:=fun t q1 q2=>by
  rw [sta_rmp,← sta_rmp0 hok.cht,(hok.bas p.1 hym).1,if_pos rfl,(inB_iff _ _ _).2 (by omega)]
  rfl
 have hrB2:∀ t:Nat,t ≤ x.cht.tide.length → (reachL x.cht p.1.cls p.1.rmp t).length = x.cht.depth.length:=fun t _=>reachL_len _ _ _ _
 have zE:(ME = 0) = True ∨ ((ME = 0) = False ∧ (ME != 3) = false):=by
  rcases hmo with h | h
  ·exact .inl (eq_true h)
  ·exact .inr ⟨eq_false (by omega),by simp [h]⟩
 refine ⟨?_⟩
 simp (config := { maxSteps := 4000000 }) only [↓sxw,sxw,tf5,sxu,sxl,sxm,simprocAttr,e7,dn]
 first | refine amid (at_n (hrB _) bac_len (by omega) hp fun ad=>?_) | refine at_n (hrB _) bac_len (by omega) hp fun ad=>?_ | refine (at_n (hrB _) bac_len (by omega) hp fun ad=>?_).2.2 | refine (at_n (hrB _) bac_len (by omega) hp fun ad=>?_).2
 unfold bac
 simp (config := { maxSteps := 4000000 }) only [↓sxw,sxw,tf5,sxu,sxl,sxm,simprocAttr,ho1,ho2,dn]
 refine CallOb.pureH (fun w' hp'=>hmu _ w' hp') ?_
 rintro r N2 ⟨z,rfl,hz⟩
 have hzs:=hz.shape
 obtain ⟨az,cz,rfl⟩:=hzs
 have hH2:∀ g ∈ N,g ∈ N2 ++ H1:=fun g hg=>List.mem_append_right _ (hH1 g hg)
 obtain ⟨HH,hHH⟩:∃ HH,N2 ++ H1 = HH:=⟨_,rfl⟩
 rw [hHH] at hH2 ⊢
 refine ⟨?_⟩
 simp (config := { maxSteps := 4000000 }) only [↓sxw,sxw,tf5,sxu,sxl,sxm,simprocAttr,dn]
 refine cut_constH [(100,105)] (fun _:Unit=>[(105,.bool false)]) (fun _ H2=>H2 = HH) ?_ ?_
 ·rcases zE with zE | ⟨zE,zE3⟩
  ·refine ⟨?_⟩
   simp (config := { maxSteps := 4000000 }) only [↓sxw,sxw,tf5,sxu,sxl,sxm,simprocAttr,zE,dn]
   first | exact ⟨(),_,rfl,HImp.refl _ _,rfl⟩ | exact ⟨(),_,HImp.refl _ _,rfl⟩
  ·refine ⟨?_⟩
   simp (config := { maxSteps := 4000000 }) only [↓sxw,sxw,tf5,sxu,sxl,sxm,simprocAttr,zE,zE3,dn]
   first | exact ⟨(),_,rfl,HImp.refl _ _,rfl⟩ | exact ⟨(),_,HImp.refl _ _,rfl⟩
 rintro _ H2 g2 rfl
 by_cases hrun:ME = 0 ∧ (i:Int) ≠ bs
 case neg=>
  have hA2:AA (i + 1) = AA i:=by
   rw [hA1]
   by_cases q1:(i:Int) = bs
   ·rw [decide_eq_true q1]
    simp
   ·have q2:ME ≠ 0:=fun h=>hrun ⟨h,q1⟩
    rw [harn q2]
    simp
  by_cases q1:ME = 0
  ·have y1:(ME = 0) = True:=eq_true q1
   have q2:(i:Int) = bs:=Classical.byContradiction fun h=>hrun ⟨q1,h⟩
   have y2:((i:Int) = bs) = True:=eq_true q2
   have y3:((i:Int) != bs) = false:=by simp [q2]
   refine ⟨?_⟩
   simp (config := { maxSteps := 4000000 }) only [↓sxw,sxw,tf5,sxu,sxl,sxm,simprocAttr,dn]
   refine loop_constH H2 (HImp.refl _ _) [(4,4),(8,8),(14,17),(107,171)] (fun m:Nat=>[(8,.bool (AA i)),(14,I MT)]) (fun m H1=>H1 = H2) (fun m=>0) 0 ?_ rfl ?_
   ·simp (config := { maxSteps := 4000000 }) only [↓sxw,sxw,tf5,sxu,sxl,sxm,simprocAttr]
    try simp
   rintro _ H3 g3 rfl
   refine ⟨?_⟩
   simp (config := { maxSteps := 4000000 }) only [↓sxw,sxw,tf5,sxu,sxl,sxm,simprocAttr,y1,y2,y3,e8,dn]
   exact ⟨i + 1,_,by first | exact ⟨by rw [hA2],rfl⟩ | (rw [hA2]; done) | (rw [hA2]; try simp),HImp.refl _ _,⟨by omega,hH2⟩,by omega⟩
  ·have y1:(ME = 0) = False:=eq_false q1
   refine ⟨?_⟩
   simp (config := { maxSteps := 4000000 }) only [↓sxw,sxw,tf5,sxu,sxl,sxm,simprocAttr,dn]
   refine loop_constH H2 (HImp.refl _ _) [(4,4),(8,8),(14,17),(107,171)] (fun m:Nat=>[(8,.bool (AA i)),(14,I MT)]) (fun m H1=>H1 = H2) (fun m=>0) 0 ?_ rfl ?_
   ·simp (config := { maxSteps := 4000000 }) only [↓sxw,sxw,tf5,sxu,sxl,sxm,simprocAttr]
    try simp
   rintro _ H3 g3 rfl
   refine ⟨?_⟩
   simp (config := { maxSteps := 4000000 }) only [↓sxw,sxw,tf5,sxu,sxl,sxm,simprocAttr,y1,e8,dn]
   exact ⟨i + 1,_,by first | exact ⟨by rw [hA2],rfl⟩ | (rw [hA2]; done) | (rw [hA2]; try simp),HImp.refl _ _,⟨by omega,hH2⟩,by omega⟩
 obtain ⟨hE0,hne⟩:=hrun
 have y1:(ME = 0) = True:=eq_true hE0
 have y2:((i:Int) = bs) = False:=eq_false hne
 have y3:((i:Int) != bs) = true:=by simp [hne]
 have hmt:=hmt hE0
 obtain ⟨beg,rfl⟩:∃ beg:Nat,MT = beg:=⟨MT.toNat,by omega⟩
 have harh:=harh hE0
 rw [Int.toNat_natCast] at harh
 rw [decide_eq_false hne,Bool.not_false,Bool.true_and,harh] at hA1
 have hstep:=fun m=>hitM_step x.cht p.1 CL beg (call + ml) m
 obtain ⟨HM,hHM⟩:∃ HM:Nat → Bool,∀ m,hitM x.cht p.1 CL beg (call + ml) m = HM m:=⟨_,fun _=>rfl⟩
 have hM0:HM 0 = false:=by rw [← hHM]; simp [hitM,arvM]
 simp only [hHM] at hstep hA1
 obtain ⟨HS,hS0,hSs,hSe⟩:∃ HS:Nat → Bool,HS 0 = AA i ∧ (∀ m,HS (m + 1) = (HS m || (decide (0 ≤ (reachL x.cht p.1.cls p.1.rmp (beg + m)).getD CL 0) && decide ((reachL x.cht p.1.cls p.1.rmp (beg + m)).getD CL 0 ≤ call + ml)))) ∧ HS (x.cht.tide.length - beg) = AA (i + 1):=by
  refine ⟨fun m=>AA i || HM m,by simp [hM0],fun m=>?_,hA1.symm⟩
  show (AA i || HM (m + 1)) = ((AA i || HM m) || _)
  rw [hstep m,Bool.or_assoc]
 have eL:wr (call + ml) = call + ml:=wrap_id (by omega)
 refine ⟨?_⟩
 simp (config := { maxSteps := 4000000 }) only [↓sxw,sxw,tf5,sxu,sxl,sxm,simprocAttr,dn]
 refine loop_constH H2 (HImp.refl _ _) [(4,4),(8,8),(14,17),(107,171)] (fun m:Nat=>[(8,.bool (HS m)),(14,I ((beg + m:Nat):Int))]) (fun m H1=>m ≤ x.cht.tide.length - beg ∧ ∀ g ∈ N,g ∈ H1) (fun m=>x.cht.tide.length - beg - m) 0 ?_ ⟨Nat.zero_le _,hH2⟩ ?_
 ·simp (config := { maxSteps := 4000000 }) only [↓sxw,sxw,tf5,sxu,sxl,sxm,simprocAttr]
  first | exact ⟨by rw [hS0],rfl⟩ | (rw [hS0]; done) | (rw [hS0]; try simp)
 rintro m H3 g3 ⟨hmm,hHN⟩
 by_cases hmn:x.cht.tide.length ≤ beg + m
 ·have f7:(((beg + m:Nat):Int) < (x.cht.tide.length:Int)) = False:=eq_false (by omega)
  have hme:m = x.cht.tide.length - beg:=by omega
  rw [hme,hSe,← hme]
  refine ⟨?_⟩
  simp (config := { maxSteps := 4000000 }) only [↓sxw,sxw,tf5,sxu,sxl,sxm,simprocAttr,y1,y2,y3,f7,e8,dn]
  exact ⟨i + 1,_,by first | exact ⟨rfl,rfl⟩ | rfl,HImp.refl _ _,⟨by omega,hHN⟩,by omega⟩
 have f7:(((beg + m:Nat):Int) < (x.cht.tide.length:Int)) = True:=eq_true (by omega)
 have f8:wr (((beg + m:Nat):Int) + 1) = ((beg + (m + 1):Nat):Int):=(wrap_id (by omega)).trans (by omega)
 have f9:(((beg + m:Nat):Int) < call) = False:=eq_false (by omega)
 have hre:=hre ((beg + m:Nat):Int)
 rw [hsta _ (by omega) (by omega)] at hre
 have hrl:=reachL_len x.cht p.1.cls p.1.rmp (beg + m)
 have hSm:=hSs m
 have hv:(reachL x.cht p.1.cls p.1.rmp (beg + m))[CL]? = some ((reachL x.cht p.1.cls p.1.rmp (beg + m)).getD CL 0):=getD_at (by omega) 0
 obtain ⟨RL,hRL⟩:∃ RL,reachL x.cht p.1.cls p.1.rmp (beg + m) = RL:=⟨_,rfl⟩
 simp only [Int.toNat_natCast,hRL] at hre
 rw [hRL] at hrl hSm hv
 obtain ⟨nv,hnv⟩:∃ n,RL.getD CL 0 = n:=⟨_,rfl⟩
 rw [hnv] at hSm hv
 have g9:((RL.length:Int) = (x.cht.depth.length:Int)) = True:=eq_true (by omega)
 have g9b:((RL.length:Int) != (x.cht.depth.length:Int)) = false:=by rw [hrl]; simp
 have gC:((CL:Int) < (RL.length:Int)) = True:=eq_true (by omega)
 refine ⟨?_⟩
 simp (config := { maxSteps := 4000000 }) only [↓sxw,sxw,tf5,sxu,sxl,sxm,simprocAttr,y1,y2,y3,f7,dn]
 refine CallOb.pureH (fun w' hp'=>hre _ w' hp') ?_
 rintro r N4 (⟨h,_⟩ | ⟨_,xr,rfl,hgot⟩)
 ·exact absurd rfl h
 have hgs:=hgot.shape
 obtain ⟨aR,cR,rfl⟩:=hgs
 have hrG:=hgot.rdv (w0:=⟨w,fun _=>False⟩) (H:=N4 ++ H3) i1_len (fun g hg=>List.mem_append_left _ hg)
 cases hb:HS m with
 | true=>
  rw [hb,Bool.true_or] at hSm
  refine ⟨?_⟩
  simp (config := { maxSteps := 4000000 }) only [↓sxw,sxw,tf5,sxu,sxl,sxm,simprocAttr,f9,g9,g9b,gC,dn]
  first | refine amid (at_1 hrG i1_len hv rfl fun ad=>?_) | refine at_1 hrG i1_len hv rfl fun ad=>?_ | refine (at_1 hrG i1_len hv rfl fun ad=>?_).2.2 | refine (at_1 hrG i1_len hv rfl fun ad=>?_).2
  simp (config := { maxSteps := 4000000 }) only [↓sxw,sxw,tf5,sxu,sxl,sxm,simprocAttr,f8,dn]
  exact ⟨m + 1,_,by first | exact ⟨by rw [hSm],rfl⟩ | (rw [hSm]; done) | (rw [hSm]; try simp),HImp.app _ _ _,⟨by omega,hHN⟩,by omega⟩
 | false=>
 rw [hb,Bool.false_or] at hSm
 by_cases k1:nv ≥ 0
 case neg=>
  have y4:(nv ≥ 0) = False:=eq_false k1
  rw [decide_eq_false (by omega),Bool.false_and] at hSm
  refine ⟨?_⟩
  simp (config := { maxSteps := 4000000 }) only [↓sxw,sxw,tf5,sxu,sxl,sxm,simprocAttr,f9,g9,g9b,gC,dn]
  first | refine amid (at_1 hrG i1_len hv rfl fun ad=>?_) | refine at_1 hrG i1_len hv rfl fun ad=>?_ | refine (at_1 hrG i1_len hv rfl fun ad=>?_).2.2 | refine (at_1 hrG i1_len hv rfl fun ad=>?_).2
  simp (config := { maxSteps := 4000000 }) only [↓sxw,sxw,tf5,sxu,sxl,sxm,simprocAttr,y4,f8,dn]
  exact ⟨m + 1,_,by first | exact ⟨by rw [hSm],rfl⟩ | (rw [hSm]; done) | (rw [hSm]; try simp),HImp.app _ _ _,⟨by omega,hHN⟩,by omega⟩
 have y4:(nv ≥ 0) = True:=eq_true k1
 obtain ⟨B,hB⟩:∃ B,decide (nv ≤ call + ml) = B:=⟨_,rfl⟩
 rw [decide_eq_true k1,Bool.true_and,hB] at hSm
 have y5:(nv ≤ call + ml) = (B = true):=by rw [← hB,decide_eq_true_eq]
 refine ⟨?_⟩
 simp (config := { maxSteps := 4000000 }) only [↓sxw,sxw,tf5,sxu,sxl,sxm,simprocAttr,f9,g9,g9b,gC,dn]
 first | refine amid (at_1 hrG i1_len hv rfl fun ad=>?_) | refine at_1 hrG i1_len hv rfl fun ad=>?_ | refine (at_1 hrG i1_len hv rfl fun ad=>?_).2.2 | refine (at_1 hrG i1_len hv rfl fun ad=>?_).2
 simp (config := { maxSteps := 4000000 }) only [↓sxw,sxw,tf5,sxu,sxl,sxm,simprocAttr,y4,eL,hB,f8,dn]
 exact ⟨m + 1,_,by first | exact ⟨by rw [hSm],rfl⟩ | (rw [hSm]; done) | (rw [hSm]; try simp),HImp.app _ _ _,⟨by omega,hHN⟩,by omega⟩
end Go.Proofs.YtljpknnhimkkjaaGreatDoor
