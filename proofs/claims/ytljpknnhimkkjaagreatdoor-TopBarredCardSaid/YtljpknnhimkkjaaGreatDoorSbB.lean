/- A part of a proof: the symbolic walk and what it shows of single functions. -/
import Derived.Test.YtljpknnhimkkjaaGreatDoorSbA
set_option linter.all false
namespace Go.Proofs.YtljpknnhimkkjaaGreatDoor
open Go.RowKit Go.SX
set_option maxRecDepth 10000
set_option maxHeartbeats 0
set_option linter.unusedSimpArgs false
set_option linter.unusedVariables false
theorem RwD.read {x:Cst} {N:List HO} {call:Int} {v:Value} (h:RwD x N (call,v)):∃ a c ps,v = .slice a ps.length c ∧ ps.map Prod.fst = arvA x call ∧ ∀ w0 G,(∀ g ∈ N,g ∈ G) → Rdv w0 G v 1 (cat lmc ps) ∧ ∀ p ∈ ps,Rdv w0 G (lmv p) 1 (ints p.1):=by
 obtain ⟨a,c,ps,h1,h2,h3,h4,h5,h6⟩:=h
 exact ⟨a,c,ps,h1,h2,fun w0 G hG=>⟨row_rdv (E:=22) (hG _ h3) ⟨a,ps.length,c,h1,by rw [cat_len lmc_len],fun ha=>by rw [h5 ha]; rfl⟩,fun p hp=>row_rdv (E:=3) (hG _ (h4 p hp)) ⟨p.2.1,p.1.length,p.2.2,rfl,by unfold ints; rw [cat_len i1_len],fun ha=>absurd ha (h6 p hp)⟩⟩⟩
theorem calE_of {x:Cst} (hok:x.ok) {call:Int} (h0:0 ≤ call) (h1:call < x.calls):calE x call = 0:=by
 unfold calE
 rw [(Cst.okB_iff x).2 hok,if_pos rfl,(inB_iff _ _ _).2 (by omega),if_pos rfl]
theorem arvA_at {x:Cst} {call:Int} {ps:List Lm} (h:ps.map Prod.fst = arvA x call) {i:Nat} {p:Lm} (hp:ps[i]? = some p):∃ b,x.bases[i]? = some b ∧ p.1 = arvL x b call:=by
 have h1:(arvA x call)[i]? = some p.1:=by rw [← h,List.getElem?_map,hp]; rfl
 unfold arvA at h1
 rw [List.getElem?_map] at h1
 cases hb:x.bases[i]? with
 | none=>rw [hb] at h1; cases h1
 | some b=>
  rw [hb] at h1
  simp only [Option.map_some,Option.some.injEq] at h1
  exact ⟨b,rfl,h1.symm⟩
theorem arvL_at {x:Cst} {b:Bse} {call:Int} {k:Nat} {mc ml:Int} (h:x.marks[k]? = some (mc,ml)):(arvL x b call)[k]? = some (arv x b call mc.toNat):=by
 unfold arvL
 rw [List.getElem?_map,h]
 rfl
theorem arvL_len (x:Cst) (b:Bse) (call:Int):(arvL x b call).length = x.marks.length:=by unfold arvL; rw [List.length_map]
theorem arvA_len {x:Cst} {call:Int} {ps:List Lm} (h:ps.map Prod.fst = arvA x call):ps.length = x.bases.length:=by
 rw [← List.length_map (f:=Prod.fst),h]
 unfold arvA
 rw [List.length_map]
def pl9_11:Plan:=(ones [0,1,2,3,4,5,6,7,8,9,10,11,12,13,14,15,16] .fin)
def pl9_16:Plan:=(ones [0,1,2,3,4,5,6,7,8,9,10,11,12,13,14,15,16,17,18,19,20,21,22,23,24,25,26,27,28,29,30,31,32,33,34,35,36,37,38,39,40,41,42,43,44,45,46,47] .fin)
def pl9:List (Nat × Plan):=[(11,pl9_11),(16,pl9_16)]
theorem pl9_lk:(lkO 11 pl9 = some pl9_11) ∧ (lkO 16 pl9 = some pl9_16):=⟨rfl,rfl⟩
theorem coverTimes_fn (w:World) (hw:Ways w) (v:Value) (x:Cst) (hx:CoOk w v x) (call:Int):SX.Fn Tryz.prog 9 [v,I call] w (fun _=>False) fun r N=>r = .bool true:=by
 have dn:∀ (g:Nat) (xs:List Value),det0 g xs = none:=fun _ _=>rfl
 have hva:=fun (H:List HO) w' (hp:Hp ⟨w,fun _=>False⟩ H w')=>valid8_fn w' (hw.hp hp) v x (hx.hp hp)
 have hwo:=fun (H:List HO) w' (hp:Hp ⟨w,fun _=>False⟩ H w')=>works8_fn w' (hw.hp hp)
 have har:=fun (hsm:x.small) (H:List HO) w' (hp:Hp ⟨w,fun _=>False⟩ H w')=>Arrivals_fn w' (hw.hp hp) v x (hx.hp hp) hsm call
 obtain ⟨sD,sT,sS,vb,vm,pb,rfl,hC,h2,h3,h4,h5⟩:=hx
 have hmu:=fun (hsm:x.small) (p:Bm) (hpm:p ∈ pb) (H:List HO) w' (hp:Hp ⟨w,fun _=>False⟩ H w')=>muster1_fn w' _ p.1.stn ((h4 p hpm).hp hp).1 (hsm.bas p.1 (by rw [← h2]; exact List.mem_map_of_mem hpm)).1 call p.2.2 p.1.seats ((h4 p hpm).hp hp).2 (by have:=(hsm.bas p.1 (by rw [← h2]; exact List.mem_map_of_mem hpm)).2; omega) x.length
 have hone:=fun (p:Bm) (hp:p ∈ pb)=>bac_one (h4 p hp)
 have hpl:pb.length = x.bases.length:=by rw [← h2,List.length_map]
 obtain ⟨hD,hT,hS⟩:=hC.parts
 obtain ⟨aD,nD,cD,rfl⟩:=hD.shape
 obtain ⟨aS,nS,cS,rfl⟩:=hS.shape
 obtain ⟨aT,nT,cT,rfl⟩:=hT.shape
 have hn2:=hT.le spc_len (by omega)
 obtain ⟨aB,nB,cB,rfl⟩:=h3.shape
 have hn4:=h3.le bac_len (by omega)
 obtain ⟨aM,nM,cM,rfl⟩:=h5.shape
 have hn5:=h5.le spc_len (by omega)
 subst hn2 hn4 hn5
 have hrB:=fun H=>h3.rd0 H
 unfold VldP at hva
 unfold ArrP at har
 unfold TLE snv at hmu
 unfold cov at hva har ⊢
 refine walkC [3,23] [] pl9 (det0_ok _ _) Tryz.func9 rfl Tryz.ntmps9 res9 (by kernel_rfl) no_facts ?_
 simp (config := { maxSteps := 4000000 }) only [↓sxw,sxw,tf9,sxu,sxl,sxm,simprocAttr,dn]
 refine cut_constH [(13,25)] (fun b:Bool=>[(25,.bool b)]) (fun b H2=>H2 = [] ∧ (b = false → x.small ∧ x.ok ∧ 0 ≤ call ∧ call < x.calls)) ?_ ?_
 ·refine ⟨?_⟩
  simp (config := { maxSteps := 4000000 }) only [↓sxw,sxw,tf9,sxu,sxl,sxm,simprocAttr,dn]
  refine CallOb.pureH (fun w' hp=>hva _ w' hp) ?_
  rintro r N ⟨b,rfl,hb⟩
  cases b with
  | false=>
   refine ⟨?_⟩
   simp (config := { maxSteps := 4000000 }) only [↓sxw,sxw,tf9,sxu,sxl,sxm,simprocAttr,dn]
   exact ⟨true,_,rfl,HImp.nil _ _,rfl,fun h=>by cases h⟩
  | true=>
  obtain ⟨hsm,hok,_⟩:=hb rfl
  by_cases c1:call < 0
  ·have z1:(call < 0) = True:=eq_true c1
   refine ⟨?_⟩
   simp (config := { maxSteps := 4000000 }) only [↓sxw,sxw,tf9,sxu,sxl,sxm,simprocAttr,z1,dn]
   exact ⟨true,_,rfl,HImp.nil _ _,rfl,fun h=>by cases h⟩
  have z1:(call < 0) = False:=eq_false c1
  by_cases c2:call ≥ x.calls
  ·have z2:(call ≥ x.calls) = True:=eq_true c2
   refine ⟨?_⟩
   simp (config := { maxSteps := 4000000 }) only [↓sxw,sxw,tf9,sxu,sxl,sxm,simprocAttr,z1,z2,dn]
   exact ⟨true,_,rfl,HImp.nil _ _,rfl,fun h=>by cases h⟩
  have z2:(call ≥ x.calls) = False:=eq_false c2
  refine ⟨?_⟩
  simp (config := { maxSteps := 4000000 }) only [↓sxw,sxw,tf9,sxu,sxl,sxm,simprocAttr,z1,z2,dn]
  exact ⟨false,_,rfl,HImp.nil _ _,rfl,fun _=>⟨hsm,hok,by omega,by omega⟩⟩
 rintro b H2 g2 ⟨rfl,hb⟩
 cases b with
 | true=>
  refine ⟨?_⟩
  simp (config := { maxSteps := 4000000 }) only [↓sxw,sxw,tf9,sxu,sxl,sxm,simprocAttr,dn]
  refine CallOb.pureH (fun w' hp=>hwo _ w' hp) ?_
  rintro r N rfl
  refine ⟨?_⟩
  simp (config := { maxSteps := 4000000 }) only [↓sxw,sxw,tf9,sxu,sxl,sxm,simprocAttr,dn]
  try rfl
 | false=>
 obtain ⟨hsm,hok,hc0,hc1⟩:=hb rfl
 have hE:=calE_of hok hc0 hc1
 have har:=har hsm
 have hmu:=hmu hsm
 have hnb:=hsm.nb
 have hnm:=hsm.nm
 have htl:=hsm.cht.2.1
 rw [hE] at har
 refine ⟨?_⟩
 simp (config := { maxSteps := 4000000 }) only [↓sxw,sxw,tf9,sxu,sxl,sxm,simprocAttr,dn]
 refine CallOb.pureH (fun w' hp=>har _ w' hp) ?_
 rintro r N (⟨h,_⟩ | ⟨_,vA,rfl,hrd⟩)
 ·exact absurd rfl h
 obtain ⟨aA,cA,ps,rfl,hps,hrd⟩:=hrd.read
 have hal:=arvA_len hps
 have z9:((ps.length:Int) = (pb.length:Int)) = True:=eq_true (by omega)
 refine ⟨?_⟩
 simp (config := { maxSteps := 4000000 }) only [↓sxw,sxw,tf9,sxu,sxl,sxm,simprocAttr,z9,dn]
 refine loop_constH N (by first | exact HImp.refl _ _ | (simp only [List.append_nil]; exact HImp.refl _ _)) [(4,4),(7,12),(43,139)] (fun i:Nat=>[(7,I i)]) (fun i H1=>i ≤ ps.length ∧ ∀ g ∈ N,g ∈ H1) (fun i=>ps.length - i) 0 ?_ ⟨Nat.zero_le _,fun g hg=>hg⟩ ?_
 ·simp (config := { maxSteps := 4000000 }) only [↓sxw,sxw,tf9,sxu,sxl,sxm,simprocAttr]
  try simp
 rintro i H1 g1 ⟨hi,hH1⟩
 by_cases hin:i = ps.length
 ·have e7:((i:Int) < (ps.length:Int)) = False:=eq_false (by omega)
  refine ⟨?_⟩
  simp (config := { maxSteps := 4000000 }) only [↓sxw,sxw,tf9,sxu,sxl,sxm,simprocAttr,e7,dn]
  refine CallOb.pureH (fun w' hp=>hwo _ w' hp) ?_
  rintro r N rfl
  refine ⟨?_⟩
  simp (config := { maxSteps := 4000000 }) only [↓sxw,sxw,tf9,sxu,sxl,sxm,simprocAttr,dn]
  try rfl
 have e7:((i:Int) < (ps.length:Int)) = True:=eq_true (by omega)
 have e8:wr (i + 1) = ((i + 1:Nat):Int):=(wrap_id (by omega)).trans (by omega)
 obtain ⟨q,hq⟩:∃ q,ps[i]? = some q:=⟨_,List.getElem?_eq_getElem (by omega)⟩
 obtain ⟨y,hy,hqy⟩:=arvA_at hps hq
 obtain ⟨p,hp⟩:∃ p,pb[i]? = some p:=⟨_,List.getElem?_eq_getElem (by omega)⟩
 have hpy:p.1 = y:=by
  have:x.bases[i]? = some p.1:=by rw [← h2,List.getElem?_map,hp]; rfl
  rw [hy] at this
  cases this
  rfl
 have hpm:=List.mem_of_getElem? hp
 have hym:y ∈ x.bases:=List.mem_of_getElem? hy
 obtain ⟨ho1,ho2⟩:=hone p hpm
 have hmu:=hmu p hpm
 have hmo:=musE_or (callE_call hok hym hc0 hc1)
 have hql:q.1.length = x.marks.length:=by rw [hqy,arvL_len]
 have z10:((q.1.length:Int) = (x.marks.length:Int)) = True:=eq_true (by omega)
 have hbn:=fun (mc:Int) (hc:mc.toNat < x.cht.depth.length)=>arv_bnd (b:=y) (call:=call) hc
 rw [← hpy] at hmo hbn
 obtain ⟨ME,hME⟩:∃ e,musE p.1.stn call p.1.seats x.length = e:=⟨_,rfl⟩
 obtain ⟨MT,hMT⟩:∃ e,musT p.1.stn call p.1.seats x.length = e:=⟨_,rfl⟩
 simp only [hME,hMT] at hmu hbn
 rw [hME] at hmo
 have hrdR:=fun G hG=>(hrd ⟨w,fun _=>False⟩ G hG).1
 have hrdq:=fun G hG=>(hrd ⟨w,fun _=>False⟩ G hG).2 q (List.mem_of_getElem? hq)
 obtain ⟨ql,qa,qc⟩:=q
 unfold lmv at hrdq
 simp only [] at hrdq hql z10 hqy
 have hbody:∀ k,k < ql.length → ∃ n,ql[k]? = some n ∧ (n = -1 ∨ (ME = 0 ∧ ¬ n < call ∧ ¬ n < MT ∧ ¬ n ≥ (x.cht.tide.length:Int))):=fun k hk=>by
  obtain ⟨m,hm⟩:∃ m,x.marks[k]? = some m:=⟨_,List.getElem?_eq_getElem (by omega)⟩
  obtain ⟨mc,ml⟩:=m
  have hmk:=hok.mar _ (List.mem_of_getElem? hm)
  simp only [] at hmk
  refine ⟨arv x y call mc.toNat,by rw [hqy]; exact arvL_at hm,?_⟩
  rw [← hpy]
  rcases hbn mc (by omega) with h | ⟨h1,h2,h3,h4⟩
  ·exact .inl h
  ·exact .inr ⟨h1,by omega,by omega,by omega⟩
 have zE:(ME = 0) = True ∨ ((ME = 0) = False ∧ (ME != 3) = false):=by
  rcases hmo with h | h
  ·exact .inl (eq_true h)
  ·exact .inr ⟨eq_false (by omega),by simp [h]⟩
 refine ⟨?_⟩
 simp (config := { maxSteps := 4000000 }) only [↓sxw,sxw,tf9,sxu,sxl,sxm,simprocAttr,e7,dn]
 first | refine at_n (hrB _) bac_len (by omega) hp fun ad=>?_ | refine amid (at_n (hrB _) bac_len (by omega) hp fun ad=>?_)
 unfold bac
 simp (config := { maxSteps := 4000000 }) only [↓sxw,sxw,tf9,sxu,sxl,sxm,simprocAttr,ho1,ho2,dn]
 refine CallOb.pureH (fun w' hp'=>hmu _ w' hp') ?_
 rintro r N2 ⟨z,rfl,hz⟩
 have hzs:=hz.shape
 obtain ⟨az,cz,rfl⟩:=hzs
 refine ⟨?_⟩
 simp (config := { maxSteps := 4000000 }) only [↓sxw,sxw,tf9,sxu,sxl,sxm,simprocAttr,dn]
 refine cut_constH [(66,82)] (fun _:Unit=>[(82,.bool false)]) (fun _ H2=>∀ g ∈ N,g ∈ H2) ?_ ?_
 ·rcases zE with zE | ⟨zE,zE3⟩
  ·refine ⟨?_⟩
   simp (config := { maxSteps := 4000000 }) only [↓sxw,sxw,tf9,sxu,sxl,sxm,simprocAttr,e7,dn,pl9_lk,pl9_11]
   first | refine amid (at_1 (hrdR _ (fun g hg=>by simp [hH1 g hg])) lmc_len hq rfl fun ad1=>?_) | refine at_1 (hrdR _ (fun g hg=>by simp [hH1 g hg])) lmc_len hq rfl fun ad1=>?_ | refine (at_1 (hrdR _ (fun g hg=>by simp [hH1 g hg])) lmc_len hq rfl fun ad1=>?_).2.2
   unfold lmv
   simp (config := { maxSteps := 4000000 }) only [↓sxw,sxw,tf9,sxu,sxl,sxm,simprocAttr,z10,zE,dn,pl9_lk,pl9_11]
   first | exact ⟨(),_,rfl,HImp.refl _ _,fun g hg=>by simp [hH1 g hg]⟩ | exact ⟨(),_,HImp.refl _ _,fun g hg=>by simp [hH1 g hg]⟩
  ·refine ⟨?_⟩
   simp (config := { maxSteps := 4000000 }) only [↓sxw,sxw,tf9,sxu,sxl,sxm,simprocAttr,e7,dn,pl9_lk,pl9_11]
   first | refine amid (at_1 (hrdR _ (fun g hg=>by simp [hH1 g hg])) lmc_len hq rfl fun ad1=>?_) | refine at_1 (hrdR _ (fun g hg=>by simp [hH1 g hg])) lmc_len hq rfl fun ad1=>?_ | refine (at_1 (hrdR _ (fun g hg=>by simp [hH1 g hg])) lmc_len hq rfl fun ad1=>?_).2.2
   unfold lmv
   simp (config := { maxSteps := 4000000 }) only [↓sxw,sxw,tf9,sxu,sxl,sxm,simprocAttr,z10,zE,zE3,dn,pl9_lk,pl9_11]
   first | exact ⟨(),_,rfl,HImp.refl _ _,fun g hg=>by simp [hH1 g hg]⟩ | exact ⟨(),_,HImp.refl _ _,fun g hg=>by simp [hH1 g hg]⟩
 rintro _ H2 g2 hH2
 refine ⟨?_⟩
 simp (config := { maxSteps := 4000000 }) only [↓sxw,sxw,tf9,sxu,sxl,sxm,simprocAttr,dn]
 refine loop_constH H2 (HImp.refl _ _) [(4,4),(12,12),(83,139)] (fun k:Nat=>[(12,I k)]) (fun k H1=>k ≤ ql.length ∧ ∀ g ∈ N,g ∈ H1) (fun k=>ql.length - k) 0 ?_ ⟨Nat.zero_le _,hH2⟩ ?_
 ·simp (config := { maxSteps := 4000000 }) only [↓sxw,sxw,tf9,sxu,sxl,sxm,simprocAttr]
  try simp
 rintro k H1 g3 ⟨hk,hHN⟩
 have hrdR1:=hrdR H1 hHN
 have hrdq1:=hrdq H1 hHN
 by_cases hkn:k = ql.length
 ·have f7:((k:Int) < (ql.length:Int)) = False:=eq_false (by omega)
  refine ⟨?_⟩
  simp (config := { maxSteps := 4000000 }) only [↓sxw,sxw,tf9,sxu,sxl,sxm,simprocAttr,e7,dn]
  first | refine amid (at_1 hrdR1 lmc_len hq rfl fun ad1=>?_) | refine at_1 hrdR1 lmc_len hq rfl fun ad1=>?_ | refine (at_1 hrdR1 lmc_len hq rfl fun ad1=>?_).2.2
  unfold lmv
  simp (config := { maxSteps := 4000000 }) only [↓sxw,sxw,tf9,sxu,sxl,sxm,simprocAttr,f7,e8,dn]
  exact ⟨i + 1,_,rfl,HImp.refl _ _,⟨by omega,hHN⟩,by omega⟩
 have f7:((k:Int) < (ql.length:Int)) = True:=eq_true (by omega)
 have f8:wr (k + 1) = ((k + 1:Nat):Int):=(wrap_id (by omega)).trans (by omega)
 obtain ⟨n,hn,hnb⟩:=hbody k (by omega)
 rcases hnb with rfl | ⟨rfl,n1,n2,n3⟩
 ·refine ⟨?_⟩
  simp (config := { maxSteps := 4000000 }) only [↓sxw,sxw,tf9,sxu,sxl,sxm,simprocAttr,e7,dn]
  first | refine amid (at_1 hrdR1 lmc_len hq rfl fun ad1=>?_) | refine at_1 hrdR1 lmc_len hq rfl fun ad1=>?_ | refine (at_1 hrdR1 lmc_len hq rfl fun ad1=>?_).2.2
  unfold lmv
  simp (config := { maxSteps := 4000000 }) only [↓sxw,sxw,tf9,sxu,sxl,sxm,simprocAttr,e7,f7,dn,pl9_lk,pl9_16]
  first | refine amid (at_1 hrdR1 lmc_len hq rfl fun ad1=>?_) | refine at_1 hrdR1 lmc_len hq rfl fun ad1=>?_ | refine (at_1 hrdR1 lmc_len hq rfl fun ad1=>?_).2.2
  unfold lmv
  simp (config := { maxSteps := 4000000 }) only [↓sxw,sxw,tf9,sxu,sxl,sxm,simprocAttr,e7,f7,dn,pl9_lk,pl9_16]
  first | refine amid (at_1 hrdq1 i1_len hn rfl fun ad2=>?_) | refine at_1 hrdq1 i1_len hn rfl fun ad2=>?_ | refine (at_1 hrdq1 i1_len hn rfl fun ad2=>?_).2.2
  simp (config := { maxSteps := 4000000 }) only [↓sxw,sxw,tf9,sxu,sxl,sxm,simprocAttr,f8,dn,pl9_lk,pl9_16]
  exact ⟨k + 1,_,rfl,HImp.refl _ _,⟨by omega,hHN⟩,by omega⟩
 by_cases n0:n = -1
 ·have y0:(n = -1) = True:=eq_true n0
  refine ⟨?_⟩
  simp (config := { maxSteps := 4000000 }) only [↓sxw,sxw,tf9,sxu,sxl,sxm,simprocAttr,e7,dn]
  first | refine amid (at_1 hrdR1 lmc_len hq rfl fun ad1=>?_) | refine at_1 hrdR1 lmc_len hq rfl fun ad1=>?_ | refine (at_1 hrdR1 lmc_len hq rfl fun ad1=>?_).2.2
  unfold lmv
  simp (config := { maxSteps := 4000000 }) only [↓sxw,sxw,tf9,sxu,sxl,sxm,simprocAttr,e7,f7,dn,pl9_lk,pl9_16]
  first | refine amid (at_1 hrdR1 lmc_len hq rfl fun ad1=>?_) | refine at_1 hrdR1 lmc_len hq rfl fun ad1=>?_ | refine (at_1 hrdR1 lmc_len hq rfl fun ad1=>?_).2.2
  unfold lmv
  simp (config := { maxSteps := 4000000 }) only [↓sxw,sxw,tf9,sxu,sxl,sxm,simprocAttr,e7,f7,dn,pl9_lk,pl9_16]
  first | refine amid (at_1 hrdq1 i1_len hn rfl fun ad2=>?_) | refine at_1 hrdq1 i1_len hn rfl fun ad2=>?_ | refine (at_1 hrdq1 i1_len hn rfl fun ad2=>?_).2.2
  simp (config := { maxSteps := 4000000 }) only [↓sxw,sxw,tf9,sxu,sxl,sxm,simprocAttr,y0,f8,dn,pl9_lk,pl9_16]
  exact ⟨k + 1,_,rfl,HImp.refl _ _,⟨by omega,hHN⟩,by omega⟩
 have y0:(n = -1) = False:=eq_false n0
 have y1:(n < call) = False:=eq_false n1
 have y2:(n < MT) = False:=eq_false n2
 have y3:(n ≥ (x.cht.tide.length:Int)) = False:=eq_false n3
 refine ⟨?_⟩
 simp (config := { maxSteps := 4000000 }) only [↓sxw,sxw,tf9,sxu,sxl,sxm,simprocAttr,e7,dn]
 first | refine amid (at_1 hrdR1 lmc_len hq rfl fun ad1=>?_) | refine at_1 hrdR1 lmc_len hq rfl fun ad1=>?_ | refine (at_1 hrdR1 lmc_len hq rfl fun ad1=>?_).2.2
 unfold lmv
 simp (config := { maxSteps := 4000000 }) only [↓sxw,sxw,tf9,sxu,sxl,sxm,simprocAttr,e7,f7,dn,pl9_lk,pl9_16]
 first | refine amid (at_1 hrdR1 lmc_len hq rfl fun ad1=>?_) | refine at_1 hrdR1 lmc_len hq rfl fun ad1=>?_ | refine (at_1 hrdR1 lmc_len hq rfl fun ad1=>?_).2.2
 unfold lmv
 simp (config := { maxSteps := 4000000 }) only [↓sxw,sxw,tf9,sxu,sxl,sxm,simprocAttr,e7,f7,dn,pl9_lk,pl9_16]
 first | refine amid (at_1 hrdq1 i1_len hn rfl fun ad2=>?_) | refine at_1 hrdq1 i1_len hn rfl fun ad2=>?_ | refine (at_1 hrdq1 i1_len hn rfl fun ad2=>?_).2.2
 simp (config := { maxSteps := 4000000 }) only [↓sxw,sxw,tf9,sxu,sxl,sxm,simprocAttr,y0,e7,f7,dn,pl9_lk,pl9_16]
 first | refine amid (at_1 hrdR1 lmc_len hq rfl fun ad1=>?_) | refine at_1 hrdR1 lmc_len hq rfl fun ad1=>?_ | refine (at_1 hrdR1 lmc_len hq rfl fun ad1=>?_).2.2
 unfold lmv
 simp (config := { maxSteps := 4000000 }) only [↓sxw,sxw,tf9,sxu,sxl,sxm,simprocAttr,e7,f7,dn,pl9_lk,pl9_16]
 first | refine amid (at_1 hrdq1 i1_len hn rfl fun ad2=>?_) | refine at_1 hrdq1 i1_len hn rfl fun ad2=>?_ | refine (at_1 hrdq1 i1_len hn rfl fun ad2=>?_).2.2
 simp (config := { maxSteps := 4000000 }) only [↓sxw,sxw,tf9,sxu,sxl,sxm,simprocAttr,y0,y1,e7,f7,dn,pl9_lk,pl9_16]
 first | refine amid (at_1 hrdR1 lmc_len hq rfl fun ad1=>?_) | refine at_1 hrdR1 lmc_len hq rfl fun ad1=>?_ | refine (at_1 hrdR1 lmc_len hq rfl fun ad1=>?_).2.2
 unfold lmv
 simp (config := { maxSteps := 4000000 }) only [↓sxw,sxw,tf9,sxu,sxl,sxm,simprocAttr,e7,f7,dn,pl9_lk,pl9_16]
 first | refine amid (at_1 hrdq1 i1_len hn rfl fun ad2=>?_) | refine at_1 hrdq1 i1_len hn rfl fun ad2=>?_ | refine (at_1 hrdq1 i1_len hn rfl fun ad2=>?_).2.2
 simp (config := { maxSteps := 4000000 }) only [↓sxw,sxw,tf9,sxu,sxl,sxm,simprocAttr,y0,y1,y2,e7,f7,dn,pl9_lk,pl9_16]
 first | refine amid (at_1 hrdR1 lmc_len hq rfl fun ad1=>?_) | refine at_1 hrdR1 lmc_len hq rfl fun ad1=>?_ | refine (at_1 hrdR1 lmc_len hq rfl fun ad1=>?_).2.2
 unfold lmv
 simp (config := { maxSteps := 4000000 }) only [↓sxw,sxw,tf9,sxu,sxl,sxm,simprocAttr,e7,f7,dn,pl9_lk,pl9_16]
 first | refine amid (at_1 hrdq1 i1_len hn rfl fun ad2=>?_) | refine at_1 hrdq1 i1_len hn rfl fun ad2=>?_ | refine (at_1 hrdq1 i1_len hn rfl fun ad2=>?_).2.2
 simp (config := { maxSteps := 4000000 }) only [↓sxw,sxw,tf9,sxu,sxl,sxm,simprocAttr,y0,y1,y2,y3,e7,f7,f8,dn,pl9_lk,pl9_16]
 exact ⟨k + 1,_,rfl,HImp.refl _ _,⟨by omega,hHN⟩,by omega⟩
end Go.Proofs.YtljpknnhimkkjaaGreatDoor
