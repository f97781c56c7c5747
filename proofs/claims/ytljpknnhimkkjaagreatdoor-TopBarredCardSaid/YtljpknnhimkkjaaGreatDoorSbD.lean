/- A part of a proof: the symbolic walk and what it shows of single functions. -/
import Derived.Test.YtljpknnhimkkjaaGreatDoorSbC
set_option linter.all false
namespace Go.Proofs.YtljpknnhimkkjaaGreatDoor
open Go.RowKit Go.SX
set_option maxRecDepth 10000
set_option maxHeartbeats 0
set_option linter.unusedSimpArgs false
set_option linter.unusedVariables false
theorem winE_own {x:Cst} (hok:x.ok) {b:Bse} (hb:b ∈ x.bases):winE x.cht (b.rmp.own b.cls) = 0:=by
 have hbo:=base_ok hok hb
 unfold winE
 rw [if_pos ((winOk_iff _ _).2 ⟨hok.cht,own_ramp hbo.1 hbo.2⟩)]
theorem winS_small {c:Cht} {r:Rmp} (h:c.tide.length ≤ 100):(winS c r).length ≤ 100:=by
 unfold winS
 split
 ·have:=winL_len (sureT c r) c.tide.length
  omega
 ·simp
def pl3_12:Plan:=(ones [0,1,2,3,4,5,6,7,8,9,10,11,12] .fin)
def pl3_26:Plan:=(ones [0,1,2,3,4,5,6,7,8,9,10,11,12,13,14,15] .fin)
def pl3:List (Nat × Plan):=[(12,pl3_12),(26,pl3_26)]
theorem pl3_lk:(lkO 12 pl3 = some pl3_12) ∧ (lkO 26 pl3 = some pl3_26):=⟨rfl,rfl⟩
theorem topBarred_fn (w:World) (hw:Ways w) (v:Value) (x:Cst) (hx:CoOk w v x) (call:Int):SX.Fn Tryz.prog 3 [v,I call] w (fun _=>False) fun r N=>r = .bool true:=by
 have dn:∀ (g:Nat) (xs:List Value),det0 g xs = none:=fun _ _=>rfl
 have hfa:=fun (H:List HO) w' (hp:Hp ⟨w,fun _=>False⟩ H w')=>far8_fn w' v x (hx.hp hp)
 have hck:=fun (hsm:x.small) (H:List HO) w' (hp:Hp ⟨w,fun _=>False⟩ H w')=>rcheck8_fn w' (hw.hp hp) v x (hx.hp hp) hsm
 have hwo:=fun (H:List HO) w' (hp:Hp ⟨w,fun _=>False⟩ H w')=>watched_fn w' (hw.hp hp)
 have har:=fun (hsm:x.small) (H:List HO) w' (hp:Hp ⟨w,fun _=>False⟩ H w')=>Arrivals_fn w' (hw.hp hp) v x (hx.hp hp) hsm call
 obtain ⟨sD,sT,sS,vb,vm,pb,rfl,hC,h2,h3,h4,h5⟩:=hx
 have hwi:=fun (hsm:x.small) (p:Bm) (H:List HO) w' (hp:Hp ⟨w,fun _=>False⟩ H w')=>win_fn w' _ x.cht (p.1.rmp.own p.1.cls) (hC.hp hp) hsm.cht
 have hap:=fun (hsm:x.small) (hok:x.ok) (A B:Nat) (hA:A < x.cht.depth.length) (hB:B < x.cht.depth.length) (H:List HO) w' (hp:Hp ⟨w,fun _=>False⟩ H w')=>apart_at w' (hw.hp hp) _ x.cht (hC.hp hp) hsm.cht hok.cht A B hA hB
 have hone:=fun (p:Bm) (hp:p ∈ pb)=>bac_one (h4 p hp)
 have hpl:pb.length = x.bases.length:=by rw [← h2,List.length_map]
 obtain ⟨hD,hT,hS⟩:=hC.parts
 obtain ⟨aD,nD,cD,rfl⟩:=hD.shape
 obtain ⟨aS,nS,cS,rfl⟩:=hS.shape
 obtain ⟨aT,nT,cT,rfl⟩:=hT.shape
 have hn2:=hT.le spc_len (by omega)
 obtain ⟨aB,nB,cB,rfl⟩:=h3.shape
 have hn4:=h3.le bac_len (by omega)
 obtain ⟨aM,nM,cM,rfl⟩:=h5.shape
 have hn5:=h5.le spc_len (by omega)
 subst hn2 hn4 hn5
 have hrB:=fun H=>h3.rd0 H
 have hrM:=fun H=>h5.rd0 H
 unfold FarP at hfa
 unfold ArrP at har
 unfold winPost rmv Rmp.own at hwi
 unfold cov at hfa hck har ⊢
 refine walkC [3,25,46] [] pl3 (det0_ok _ _) Tryz.func3 rfl Tryz.ntmps3 res3 (by kernel_rfl) no_facts ?_
 simp (config := { maxSteps := 4000000 }) only [↓sxw,sxw,tf3,sxu,sxl,sxm,simprocAttr,dn]
 refine cut_constH [(18,34)] (fun b:Bool=>[(34,.bool b)]) (fun b H2=>H2 = [] ∧ (b = false → x.small ∧ x.ok ∧ 0 ≤ call ∧ call < x.calls)) ?_ ?_
 ·refine ⟨?_⟩
  simp (config := { maxSteps := 4000000 }) only [↓sxw,sxw,tf3,sxu,sxl,sxm,simprocAttr,dn]
  refine CallOb.pureH (fun w' hp=>hfa _ w' hp) ?_
  rintro r N ⟨b,rfl,hb⟩
  cases b with
  | true=>
   refine ⟨?_⟩
   simp (config := { maxSteps := 4000000 }) only [↓sxw,sxw,tf3,sxu,sxl,sxm,simprocAttr,dn]
   exact ⟨true,_,rfl,HImp.nil _ _,rfl,fun h=>by cases h⟩
  | false=>
  obtain ⟨hsm,_⟩:=hb rfl
  refine ⟨?_⟩
  simp (config := { maxSteps := 4000000 }) only [↓sxw,sxw,tf3,sxu,sxl,sxm,simprocAttr,dn]
  refine CallOb.pureH (fun w' hp=>hck hsm _ w' hp) ?_
  rintro r N2 rfl
  obtain ⟨OK,hOK⟩:∃ b,x.okB = b:=⟨_,rfl⟩
  rw [hOK]
  cases OK with
  | false=>
   refine ⟨?_⟩
   simp (config := { maxSteps := 4000000 }) only [↓sxw,sxw,tf3,sxu,sxl,sxm,simprocAttr,dn]
   exact ⟨true,_,rfl,HImp.nil _ _,rfl,fun h=>by cases h⟩
  | true=>
  have hok:=(Cst.okB_iff x).1 hOK
  by_cases c1:call < 0
  ·have z1:(call < 0) = True:=eq_true c1
   refine ⟨?_⟩
   simp (config := { maxSteps := 4000000 }) only [↓sxw,sxw,tf3,sxu,sxl,sxm,simprocAttr,z1,dn]
   exact ⟨true,_,rfl,HImp.nil _ _,rfl,fun h=>by cases h⟩
  have z1:(call < 0) = False:=eq_false c1
  by_cases c2:call ≥ x.calls
  ·have z2:(call ≥ x.calls) = True:=eq_true c2
   refine ⟨?_⟩
   simp (config := { maxSteps := 4000000 }) only [↓sxw,sxw,tf3,sxu,sxl,sxm,simprocAttr,z1,z2,dn]
   exact ⟨true,_,rfl,HImp.nil _ _,rfl,fun h=>by cases h⟩
  have z2:(call ≥ x.calls) = False:=eq_false c2
  refine ⟨?_⟩
  simp (config := { maxSteps := 4000000 }) only [↓sxw,sxw,tf3,sxu,sxl,sxm,simprocAttr,z1,z2,dn]
  exact ⟨false,_,rfl,HImp.nil _ _,rfl,fun _=>⟨hsm,hok,by omega,by omega⟩⟩
 rintro b H2 g2 ⟨rfl,hb⟩
 cases b with
 | true=>
  refine ⟨?_⟩
  simp (config := { maxSteps := 4000000 }) only [↓sxw,sxw,tf3,sxu,sxl,sxm,simprocAttr,dn]
  refine CallOb.pureH (fun w' hp=>hwo _ w' hp) ?_
  rintro r N rfl
  refine ⟨?_⟩
  simp (config := { maxSteps := 4000000 }) only [↓sxw,sxw,tf3,sxu,sxl,sxm,simprocAttr,dn]
  try rfl
 | false=>
 obtain ⟨hsm,hok,hc0,hc1⟩:=hb rfl
 have hE:=calE_of hok hc0 hc1
 have har:=har hsm
 have hwi:=hwi hsm
 have hap:=hap hsm hok
 have hnb:=hsm.nb
 have hnm:=hsm.nm
 have htl:=hsm.cht.2.1
 have hdl:=hsm.cht.1
 have hcal:=hok.cal
 rw [hE] at har
 refine ⟨?_⟩
 simp (config := { maxSteps := 4000000 }) only [↓sxw,sxw,tf3,sxu,sxl,sxm,simprocAttr,dn]
 refine CallOb.pureH (fun w' hp=>har _ w' hp) ?_
 rintro r N (⟨h,_⟩ | ⟨_,vA,rfl,hrd⟩)
 ·exact absurd rfl h
 obtain ⟨aA,cA,ps,rfl,hps,hrd⟩:=hrd.read
 have hal:=arvA_len hps
 have z9:((ps.length:Int) = (pb.length:Int)) = True:=eq_true (by omega)
 refine ⟨?_⟩
 simp (config := { maxSteps := 4000000 }) only [↓sxw,sxw,tf3,sxu,sxl,sxm,simprocAttr,z9,dn]
 refine loop_constH N (by first | exact HImp.refl _ _ | (simp only [List.append_nil]; exact HImp.refl _ _)) [(4,4),(7,17),(52,180)] (fun i:Nat=>[(7,I i)]) (fun i H1=>i ≤ ps.length ∧ ∀ g ∈ N,g ∈ H1) (fun i=>ps.length - i) 0 ?_ ⟨Nat.zero_le _,fun g hg=>hg⟩ ?_
 ·simp (config := { maxSteps := 4000000 }) only [↓sxw,sxw,tf3,sxu,sxl,sxm,simprocAttr]
  try simp
 rintro i H1 g1 ⟨hi,hH1⟩
 by_cases hin:i = ps.length
 ·have e7:((i:Int) < (ps.length:Int)) = False:=eq_false (by omega)
  refine ⟨?_⟩
  simp (config := { maxSteps := 4000000 }) only [↓sxw,sxw,tf3,sxu,sxl,sxm,simprocAttr,e7,dn]
  refine CallOb.pureH (fun w' hp=>hwo _ w' hp) ?_
  rintro r N rfl
  refine ⟨?_⟩
  simp (config := { maxSteps := 4000000 }) only [↓sxw,sxw,tf3,sxu,sxl,sxm,simprocAttr,dn]
  try rfl
 have e7:((i:Int) < (ps.length:Int)) = True:=eq_true (by omega)
 have e8:wr (i + 1) = ((i + 1:Nat):Int):=(wrap_id (by omega)).trans (by omega)
 obtain ⟨q,hq⟩:∃ q,ps[i]? = some q:=⟨_,List.getElem?_eq_getElem (by omega)⟩
 obtain ⟨y,hy,hqy⟩:=arvA_at hps hq
 obtain ⟨p,hp⟩:∃ p,pb[i]? = some p:=⟨_,List.getElem?_eq_getElem (by omega)⟩
 have hpy:p.1 = y:=by
  have:x.bases[i]? = some p.1:=by rw [← h2,List.getElem?_map,hp]; rfl
  rw [hy] at this
  cases this
  rfl
 subst hpy
 have hpm:=List.mem_of_getElem? hp
 have hym:p.1 ∈ x.bases:=List.mem_of_getElem? hy
 obtain ⟨ho1,ho2⟩:=hone p hpm
 have hwi:=hwi p
 have hwE:=winE_own hok hym
 have hrc:=ramp_cell (base_ok hok hym).2
 obtain ⟨RC,hRC⟩:∃ A:Nat,p.1.rmp.cell = A:=⟨p.1.rmp.cell.toNat,by omega⟩
 have hfst:=fun (first:Int) (cell:Nat) (hc:cell < x.cht.depth.length) (hf:FstP (winS x.cht (p.1.rmp.own p.1.cls)) call x.cht.tide.length first)=>fst_arr hok hym hc0 hc hf
 rw [hRC,Int.toNat_natCast] at hfst
 have hap:=hap RC
 have hql:q.1.length = x.marks.length:=by rw [hqy,arvL_len]
 have z10:((q.1.length:Int) = (x.marks.length:Int)) = True:=eq_true (by omega)
 have hrdR:=fun G hG=>(hrd ⟨w,fun _=>False⟩ G hG).1
 have hrdq:=fun G hG=>(hrd ⟨w,fun _=>False⟩ G hG).2 q (List.mem_of_getElem? hq)
 obtain ⟨ql,qa,qc⟩:=q
 unfold lmv at hrdq
 simp only [] at hrdq hql z10 hqy
 have hws:=winS_small (r:=p.1.rmp.own p.1.cls) htl
 unfold Rmp.own at hwE hfst hws
 obtain ⟨l,hl⟩:∃ l,winS x.cht ⟨p.1.rmp.cell,p.1.cls.draught,p.1.rmp.least,p.1.rmp.most,p.1.rmp.surf⟩ = l:=⟨_,rfl⟩
 rw [hl] at hfst hws
 rw [hwE,hl] at hwi
 refine ⟨?_⟩
 simp (config := { maxSteps := 4000000 }) only [↓sxw,sxw,tf3,sxu,sxl,sxm,simprocAttr,e7,dn]
 first | refine amid (at_p (k:=i) (o:=7) (m:=5) [I p.1.rmp.cell,I p.1.rmp.draught,I p.1.rmp.least,I p.1.rmp.most,I p.1.rmp.surf] (hrB _) bac_len hp rfl rfl (by omega) fun ad=>?_) | refine at_p (k:=i) (o:=7) (m:=5) [I p.1.rmp.cell,I p.1.rmp.draught,I p.1.rmp.least,I p.1.rmp.most,I p.1.rmp.surf] (hrB _) bac_len hp rfl rfl (by omega) fun ad=>?_ | refine (at_p (k:=i) (o:=7) (m:=5) [I p.1.rmp.cell,I p.1.rmp.draught,I p.1.rmp.least,I p.1.rmp.most,I p.1.rmp.surf] (hrB _) bac_len hp rfl rfl (by omega) fun ad=>?_).2.2 | refine (at_p (k:=i) (o:=7) (m:=5) [I p.1.rmp.cell,I p.1.rmp.draught,I p.1.rmp.least,I p.1.rmp.most,I p.1.rmp.surf] (hrB _) bac_len hp rfl rfl (by omega) fun ad=>?_).2
 simp (config := { maxSteps := 4000000 }) only [↓sxw,sxw,tf3,sxu,sxl,sxm,simprocAttr,e7,dn]
 first | refine amid (at_f2 (hrB _) bac_len hp (o1:=0) (o2:=0) (x:=I p.1.cls.draught) rfl fun ad=>?_) | refine at_f2 (hrB _) bac_len hp (o1:=0) (o2:=0) (x:=I p.1.cls.draught) rfl fun ad=>?_ | refine (at_f2 (hrB _) bac_len hp (o1:=0) (o2:=0) (x:=I p.1.cls.draught) rfl fun ad=>?_).2.2 | refine (at_f2 (hrB _) bac_len hp (o1:=0) (o2:=0) (x:=I p.1.cls.draught) rfl fun ad=>?_).2
 simp (config := { maxSteps := 4000000 }) only [↓sxw,sxw,tf3,sxu,sxl,sxm,simprocAttr,dn]
 refine CallOb.pureH (fun w' hp'=>hwi _ w' hp') ?_
 rintro r N2 ⟨xs,ys,rfl,hgx,hgy⟩
 have hgxs:=hgx.shape
 obtain ⟨ax,cx,rfl⟩:=hgxs
 have hgys:=hgy.shape
 obtain ⟨ay,cy,rfl⟩:=hgys
 have hH2:∀ g ∈ N,g ∈ N2 ++ H1:=fun g hg=>List.mem_append_right _ (hH1 g hg)
 obtain ⟨HH,hHH⟩:∃ HH,N2 ++ H1 = HH:=⟨_,rfl⟩
 have hgxr:=fun G (hG:∀ g ∈ N2,g ∈ G)=>hgx.rdv (w0:=⟨w,fun _=>False⟩) (H:=G) spc_len hG
 have hN2:∀ g ∈ N2,g ∈ HH:=fun g hg=>by rw [← hHH]; exact List.mem_append_left _ hg
 rw [hHH] at hH2 ⊢
 refine ⟨?_⟩
 simp (config := { maxSteps := 4000000 }) only [↓sxw,sxw,tf3,sxu,sxl,sxm,simprocAttr,dn]
 have z10b:((ql.length:Int) != (x.marks.length:Int)) = false:=by rw [hql]; simp
 refine cut_constH [(80,92)] (fun _:Unit=>[(92,.bool false)]) (fun _ H2=>H2 = HH) ?_ ?_
 ·refine ⟨?_⟩
  simp (config := { maxSteps := 4000000 }) only [↓sxw,sxw,tf3,sxu,sxl,sxm,simprocAttr,dn,pl3_lk,pl3_12]
  first | refine amid (at_1 (hrdR _ hH2) lmc_len hq rfl fun ad1=>?_) | refine at_1 (hrdR _ hH2) lmc_len hq rfl fun ad1=>?_ | refine (at_1 (hrdR _ hH2) lmc_len hq rfl fun ad1=>?_).2.2 | refine (at_1 (hrdR _ hH2) lmc_len hq rfl fun ad1=>?_).2
  unfold lmv
  simp (config := { maxSteps := 4000000 }) only [↓sxw,sxw,tf3,sxu,sxl,sxm,simprocAttr,z10,z10b,dn,pl3_lk,pl3_12]
  first | exact ⟨(),_,rfl,HImp.refl _ _,rfl⟩ | exact ⟨(),_,HImp.refl _ _,rfl⟩
 rintro _ H2 g2 rfl
 obtain ⟨cn,hcn⟩:∃ cn:Nat,call = cn:=⟨call.toNat,by omega⟩
 obtain ⟨T,hTe⟩:∃ T:Nat,x.cht.tide.length = T:=⟨_,rfl⟩
 refine ⟨?_⟩
 simp (config := { maxSteps := 4000000 }) only [↓sxw,sxw,tf3,sxu,sxl,sxm,simprocAttr,dn]
 refine cut_constH [(12,14),(93,128)] (fun f:Int=>[(12,I f)]) (fun f H3=>H3 = H2 ∧ FstP l call x.cht.tide.length f) ?_ ?_
 ·refine ⟨?_⟩
  simp (config := { maxSteps := 4000000 }) only [↓sxw,sxw,tf3,sxu,sxl,sxm,simprocAttr,dn]
  refine loop_constH H2 (HImp.refl _ _) [(12,14),(94,128)] (fun q:Nat × Int=>[(12,I q.2),(13,I ((cn + q.1:Nat):Int))]) (fun q H1=>H1 = H2 ∧ ((q.2 = -1 ∧ cn + q.1 ≤ T ∧ ∀ u:Int,call ≤ u → u < ((cn + q.1:Nat):Int) → l.any (inW u) = false) ∨ (0 ≤ q.2 ∧ q.2 < T ∧ ∀ u:Int,call ≤ u → u < q.2 → l.any (inW u) = false))) (fun q=>T + 1 - (cn + q.1)) (0,-1) ?_ ⟨rfl,.inl ⟨rfl,by simp only []; omega,fun u h1 h2=>by simp only [Nat.add_zero] at h2; omega⟩⟩ ?_
  ·simp (config := { maxSteps := 4000000 }) only [↓sxw,sxw,tf3,sxu,sxl,sxm,simprocAttr,hcn]
   try simp
  rintro ⟨j,first⟩ H3 g3 hinv
  simp only [] at hinv
  obtain ⟨rfl,hinv⟩:=hinv
  by_cases hj:cn + j < T
  case neg=>
   have f7:(((cn + j:Nat):Int) < (x.cht.tide.length:Int)) = False:=eq_false (by omega)
   refine ⟨?_⟩
   simp (config := { maxSteps := 4000000 }) only [↓sxw,sxw,tf3,sxu,sxl,sxm,simprocAttr,f7,dn]
   refine ⟨first,_,rfl,HImp.refl _ _,rfl,?_⟩
   rcases hinv with ⟨h1,h2,h3⟩ | ⟨h1,h2,h3⟩
   ·exact .inl ⟨h1,fun u hu1 hu2=>h3 u hu1 (by omega)⟩
   ·exact .inr ⟨h1,by omega,h3⟩
  have f7:(((cn + j:Nat):Int) < (x.cht.tide.length:Int)) = True:=eq_true (by omega)
  have f8:wr (((cn + j:Nat):Int) + 1) = ((cn + (j + 1):Nat):Int):=(wrap_id (by omega)).trans (by omega)
  rcases hinv with ⟨h1,h2,h3⟩ | ⟨h1,h2,h3⟩
  case inr=>
   have f9:(first < 0) = False:=eq_false (by omega)
   refine ⟨?_⟩
   simp (config := { maxSteps := 4000000 }) only [↓sxw,sxw,tf3,sxu,sxl,sxm,simprocAttr,f7,f9,dn]
   exact ⟨first,_,rfl,HImp.refl _ _,rfl,.inr ⟨h1,by omega,h3⟩⟩
  subst h1
  have f9:((-1:Int) < 0) = True:=eq_true (by omega)
  obtain ⟨tt,htt⟩:∃ t:Int,((cn + j:Nat):Int) = t:=⟨_,rfl⟩
  obtain ⟨FF,hF0,hFs,hFl⟩:∃ FF:Nat → Int,FF 0 = -1 ∧ (∀ k u,l[k]? = some u → FF (k + 1) = if inW tt u then tt else FF k) ∧ FF l.length = if l.any (inW tt) then tt else -1:=by
   refine ⟨fun k=>if (l.take k).any (inW tt) then tt else -1,rfl,fun k u hu=>?_,?_⟩
   ·have e:(l.take (k + 1)).any (inW tt) = ((l.take k).any (inW tt) || inW tt u):=by rw [List.take_succ,hu,List.any_append]; simp
    show (if (l.take (k + 1)).any (inW tt) then tt else -1) = if inW tt u then tt else if (l.take k).any (inW tt) then tt else -1
    rw [e]
    cases inW tt u <;> cases (l.take k).any (inW tt) <;> rfl
   ·show (if (l.take l.length).any (inW tt) then tt else -1) = _
    rw [List.take_length]
  refine ⟨?_⟩
  simp (config := { maxSteps := 4000000 }) only [↓sxw,sxw,tf3,sxu,sxl,sxm,simprocAttr,f7,f9,dn]
  refine loop_constH H3 (HImp.refl _ _) [(12,12),(14,14),(106,128)] (fun k:Nat=>[(12,I (FF k)),(14,I k)]) (fun k H1=>k ≤ l.length ∧ H1 = H3) (fun k=>l.length - k) 0 ?_ ⟨Nat.zero_le _,rfl⟩ ?_
  ·simp (config := { maxSteps := 4000000 }) only [↓sxw,sxw,tf3,sxu,sxl,sxm,simprocAttr]
   first | exact ⟨by rw [hF0],rfl⟩ | (rw [hF0]; done) | (rw [hF0]; try simp)
  rintro k H4 g4 ⟨hk,rfl⟩
  by_cases hkn:k = l.length
  ·have k7:((k:Int) < (l.length:Int)) = False:=eq_false (by omega)
   refine ⟨?_⟩
   simp (config := { maxSteps := 4000000 }) only [↓sxw,sxw,tf3,sxu,sxl,sxm,simprocAttr,k7,f8,dn]
   refine ⟨(j + 1,FF k),_,by first | exact ⟨rfl,rfl⟩ | rfl,HImp.refl _ _,⟨rfl,?_⟩,by simp only []; omega⟩
   simp only []
   rw [hkn,hFl]
   by_cases ha:l.any (inW tt) = true
   ·rw [if_pos ha]
    refine .inr ⟨by omega,by omega,fun u hu1 hu2=>h3 u hu1 (by omega)⟩
   ·rw [if_neg ha]
    refine .inl ⟨rfl,by omega,fun u hu1 hu2=>?_⟩
    by_cases hu:u = tt
    ·rw [hu]
     exact Bool.eq_false_iff.2 ha
    ·exact h3 u hu1 (by omega)
  have k7:((k:Int) < (l.length:Int)) = True:=eq_true (by omega)
  have k8:wr (k + 1) = ((k + 1:Nat):Int):=(wrap_id (by omega)).trans (by omega)
  obtain ⟨u,hu⟩:∃ u,l[k]? = some u:=⟨_,List.getElem?_eq_getElem (by omega)⟩
  have hFk:=hFs k u hu
  obtain ⟨lo,hi2⟩:=u
  have hrx:=hgxr _ hN2
  rw [htt]
  by_cases q1:lo ≤ tt
  case neg=>
   have y1:(lo ≤ tt) = False:=eq_false q1
   have hw0:inW tt (lo,hi2) = false:=by unfold inW; simp [q1]
   rw [hw0,if_neg Bool.false_ne_true] at hFk
   refine ⟨?_⟩
   simp (config := { maxSteps := 4000000 }) only [↓sxw,sxw,tf3,sxu,sxl,sxm,simprocAttr,k7,dn]
   first | refine amid (at_f hrx spc_len hu (o:=0) (x:=I lo) rfl fun ad=>?_) | refine at_f hrx spc_len hu (o:=0) (x:=I lo) rfl fun ad=>?_ | refine (at_f hrx spc_len hu (o:=0) (x:=I lo) rfl fun ad=>?_).2.2 | refine (at_f hrx spc_len hu (o:=0) (x:=I lo) rfl fun ad=>?_).2
   simp (config := { maxSteps := 4000000 }) only [↓sxw,sxw,tf3,sxu,sxl,sxm,simprocAttr,y1,k8,dn]
   exact ⟨k + 1,_,by first | exact ⟨by rw [hFk],rfl⟩ | (rw [hFk]; done),HImp.refl _ _,⟨by omega,rfl⟩,by omega⟩
  have y1:(lo ≤ tt) = True:=eq_true q1
  by_cases q2:tt ≤ hi2
  case neg=>
   have y2:(tt ≤ hi2) = False:=eq_false q2
   have hw0:inW tt (lo,hi2) = false:=by unfold inW; simp [q2]
   rw [hw0,if_neg Bool.false_ne_true] at hFk
   refine ⟨?_⟩
   simp (config := { maxSteps := 4000000 }) only [↓sxw,sxw,tf3,sxu,sxl,sxm,simprocAttr,k7,dn]
   first | refine amid (at_f hrx spc_len hu (o:=0) (x:=I lo) rfl fun ad=>?_) | refine at_f hrx spc_len hu (o:=0) (x:=I lo) rfl fun ad=>?_ | refine (at_f hrx spc_len hu (o:=0) (x:=I lo) rfl fun ad=>?_).2.2 | refine (at_f hrx spc_len hu (o:=0) (x:=I lo) rfl fun ad=>?_).2
   simp (config := { maxSteps := 4000000 }) only [↓sxw,sxw,tf3,sxu,sxl,sxm,simprocAttr,y1,k7,dn]
   first | refine amid (at_f hrx spc_len hu (o:=1) (x:=I hi2) rfl fun ad=>?_) | refine at_f hrx spc_len hu (o:=1) (x:=I hi2) rfl fun ad=>?_ | refine (at_f hrx spc_len hu (o:=1) (x:=I hi2) rfl fun ad=>?_).2.2 | refine (at_f hrx spc_len hu (o:=1) (x:=I hi2) rfl fun ad=>?_).2
   simp (config := { maxSteps := 4000000 }) only [↓sxw,sxw,tf3,sxu,sxl,sxm,simprocAttr,y2,k8,dn]
   exact ⟨k + 1,_,by first | exact ⟨by rw [hFk],rfl⟩ | (rw [hFk]; done),HImp.refl _ _,⟨by omega,rfl⟩,by omega⟩
  have y2:(tt ≤ hi2) = True:=eq_true q2
  have hw1:inW tt (lo,hi2) = true:=by unfold inW; simp [q1,q2]
  rw [hw1,if_pos rfl] at hFk
  refine ⟨?_⟩
  simp (config := { maxSteps := 4000000 }) only [↓sxw,sxw,tf3,sxu,sxl,sxm,simprocAttr,k7,dn]
  first | refine amid (at_f hrx spc_len hu (o:=0) (x:=I lo) rfl fun ad=>?_) | refine at_f hrx spc_len hu (o:=0) (x:=I lo) rfl fun ad=>?_ | refine (at_f hrx spc_len hu (o:=0) (x:=I lo) rfl fun ad=>?_).2.2 | refine (at_f hrx spc_len hu (o:=0) (x:=I lo) rfl fun ad=>?_).2
  simp (config := { maxSteps := 4000000 }) only [↓sxw,sxw,tf3,sxu,sxl,sxm,simprocAttr,y1,k7,dn]
  first | refine amid (at_f hrx spc_len hu (o:=1) (x:=I hi2) rfl fun ad=>?_) | refine at_f hrx spc_len hu (o:=1) (x:=I hi2) rfl fun ad=>?_ | refine (at_f hrx spc_len hu (o:=1) (x:=I hi2) rfl fun ad=>?_).2.2 | refine (at_f hrx spc_len hu (o:=1) (x:=I hi2) rfl fun ad=>?_).2
  simp (config := { maxSteps := 4000000 }) only [↓sxw,sxw,tf3,sxu,sxl,sxm,simprocAttr,y2,k8,dn]
  exact ⟨k + 1,_,by first | exact ⟨by rw [hFk],rfl⟩ | (rw [hFk]; done),HImp.refl _ _,⟨by omega,rfl⟩,by omega⟩
 rintro first H3 g3 ⟨rfl,hfp⟩
 have hfst:=fun cell hc=>hfst first cell hc hfp
 have hfb:first = -1 ∨ (0 ≤ first ∧ first < 100):=by
  rcases hfp with h | ⟨h1,h2,_⟩
  ·exact .inl h.1
  ·exact .inr ⟨h1,by omega⟩
 refine ⟨?_⟩
 simp (config := { maxSteps := 4000000 }) only [↓sxw,sxw,tf3,sxu,sxl,sxm,simprocAttr,dn]
 refine loop_constH H3 (HImp.refl _ _) [(4,4),(15,17),(129,180)] (fun k:Nat=>[(15,I k)]) (fun k H1=>k ≤ ql.length ∧ ∀ g ∈ N,g ∈ H1) (fun k=>ql.length - k) 0 ?_ ⟨Nat.zero_le _,hH2⟩ ?_
 ·simp (config := { maxSteps := 4000000 }) only [↓sxw,sxw,tf3,sxu,sxl,sxm,simprocAttr]
  try simp
 rintro k H4 g4 ⟨hk,hHN⟩
 have hrdR1:=hrdR H4 hHN
 by_cases hkn:k = ql.length
 ·have f7:((k:Int) < (ql.length:Int)) = False:=eq_false (by omega)
  refine ⟨?_⟩
  simp (config := { maxSteps := 4000000 }) only [↓sxw,sxw,tf3,sxu,sxl,sxm,simprocAttr,e7,dn]
  first | refine amid (at_1 hrdR1 lmc_len hq rfl fun ad1=>?_) | refine at_1 hrdR1 lmc_len hq rfl fun ad1=>?_ | refine (at_1 hrdR1 lmc_len hq rfl fun ad1=>?_).2.2 | refine (at_1 hrdR1 lmc_len hq rfl fun ad1=>?_).2
  unfold lmv
  simp (config := { maxSteps := 4000000 }) only [↓sxw,sxw,tf3,sxu,sxl,sxm,simprocAttr,f7,e8,dn]
  exact ⟨i + 1,_,rfl,HImp.refl _ _,⟨by omega,hHN⟩,by omega⟩
 have f7:((k:Int) < (ql.length:Int)) = True:=eq_true (by omega)
 have f7m:((k:Int) < (x.marks.length:Int)) = True:=eq_true (by omega)
 have f8:wr (k + 1) = ((k + 1:Nat):Int):=(wrap_id (by omega)).trans (by omega)
 obtain ⟨m,hm⟩:∃ m,x.marks[k]? = some m:=⟨_,List.getElem?_eq_getElem (by omega)⟩
 obtain ⟨mc,ml⟩:=m
 have hmk:=hok.mar _ (List.mem_of_getElem? hm)
 simp only [] at hmk
 obtain ⟨CL,rfl⟩:∃ A:Nat,mc = A:=⟨mc.toNat,by omega⟩
 have hn:ql[k]? = some (arv x p.1 call CL):=by rw [hqy]; exact arvL_at hm
 have hap:=hap CL (by omega) (by omega)
 have hfst:=hfst CL (by omega)
 have hdx:=dst_lt (W:=x.cht.W) (H:=x.cht.H) (a:=RC) (x:=CL) (by have:=hok.cht.dims; omega) (by have:=hok.cht.dims; omega)
 have hdm:=hok.cht.dims
 obtain ⟨n,hnE⟩:∃ n,arv x p.1 call CL = n:=⟨_,rfl⟩
 obtain ⟨dd,hdE⟩:∃ n,dst x.cht.W x.cht.H RC CL = n:=⟨_,rfl⟩
 rw [hnE] at hn hfst
 rw [hdE] at hfst hdx
 simp only [hdE] at hap
 simp only [← hRC] at hap
 refine ⟨?_⟩
 simp (config := { maxSteps := 4000000 }) only [↓sxw,sxw,tf3,sxu,sxl,sxm,simprocAttr,e7,dn]
 first | refine amid (at_1 hrdR1 lmc_len hq rfl fun ad1=>?_) | refine at_1 hrdR1 lmc_len hq rfl fun ad1=>?_ | refine (at_1 hrdR1 lmc_len hq rfl fun ad1=>?_).2.2 | refine (at_1 hrdR1 lmc_len hq rfl fun ad1=>?_).2
 unfold lmv
 simp (config := { maxSteps := 4000000 }) only [↓sxw,sxw,tf3,sxu,sxl,sxm,simprocAttr,e7,f7,f7m,dn,pl3_lk,pl3_26]
 first | refine amid (at_f (hrM _) spc_len hm (o:=0) (x:=I CL) rfl fun ad=>?_) | refine at_f (hrM _) spc_len hm (o:=0) (x:=I CL) rfl fun ad=>?_ | refine (at_f (hrM _) spc_len hm (o:=0) (x:=I CL) rfl fun ad=>?_).2.2 | refine (at_f (hrM _) spc_len hm (o:=0) (x:=I CL) rfl fun ad=>?_).2
 simp (config := { maxSteps := 4000000 }) only [↓sxw,sxw,tf3,sxu,sxl,sxm,simprocAttr,dn,pl3_lk,pl3_26]
 refine CallOb.pureH (fun w' hp'=>hap _ w' hp') ?_
 rintro r N5 rfl
 have hrdR1:=hrdR (N5 ++ H4) fun g hg=>List.mem_append_right _ (hHN g hg)
 have hrdq1:=hrdq (N5 ++ H4) fun g hg=>List.mem_append_right _ (hHN g hg)
 by_cases n0:n ≥ 0
 case neg=>
  have y0:(n ≥ 0) = False:=eq_false n0
  refine ⟨?_⟩
  simp (config := { maxSteps := 4000000 }) only [↓sxw,sxw,tf3,sxu,sxl,sxm,simprocAttr,e7,f7,dn]
  first | refine amid (at_1 hrdR1 lmc_len hq rfl fun ad1=>?_) | refine at_1 hrdR1 lmc_len hq rfl fun ad1=>?_ | refine (at_1 hrdR1 lmc_len hq rfl fun ad1=>?_).2.2 | refine (at_1 hrdR1 lmc_len hq rfl fun ad1=>?_).2
  unfold lmv
  simp (config := { maxSteps := 4000000 }) only [↓sxw,sxw,tf3,sxu,sxl,sxm,simprocAttr,e7,f7,dn]
  first | refine amid (at_1 hrdq1 i1_len hn rfl fun ad2=>?_) | refine at_1 hrdq1 i1_len hn rfl fun ad2=>?_ | refine (at_1 hrdq1 i1_len hn rfl fun ad2=>?_).2.2 | refine (at_1 hrdq1 i1_len hn rfl fun ad2=>?_).2
  simp (config := { maxSteps := 4000000 }) only [↓sxw,sxw,tf3,sxu,sxl,sxm,simprocAttr,y0,f8,dn]
  exact ⟨k + 1,_,rfl,HImp.app _ _ _,⟨by omega,hHN⟩,by omega⟩
 have y0:(n ≥ 0) = True:=eq_true n0
 obtain ⟨p1,p2⟩:=hfst n0
 have y1:(first < 0) = False:=eq_false p1
 have e9:wr (first + (dd:Int)) = first + (dd:Int):=wrap_id (by omega)
 have y2:(n < first + (dd:Int)) = False:=eq_false p2
 refine ⟨?_⟩
 simp (config := { maxSteps := 4000000 }) only [↓sxw,sxw,tf3,sxu,sxl,sxm,simprocAttr,e7,f7,dn]
 first | refine amid (at_1 hrdR1 lmc_len hq rfl fun ad1=>?_) | refine at_1 hrdR1 lmc_len hq rfl fun ad1=>?_ | refine (at_1 hrdR1 lmc_len hq rfl fun ad1=>?_).2.2 | refine (at_1 hrdR1 lmc_len hq rfl fun ad1=>?_).2
 unfold lmv
 simp (config := { maxSteps := 4000000 }) only [↓sxw,sxw,tf3,sxu,sxl,sxm,simprocAttr,e7,f7,dn]
 first | refine amid (at_1 hrdq1 i1_len hn rfl fun ad2=>?_) | refine at_1 hrdq1 i1_len hn rfl fun ad2=>?_ | refine (at_1 hrdq1 i1_len hn rfl fun ad2=>?_).2.2 | refine (at_1 hrdq1 i1_len hn rfl fun ad2=>?_).2
 simp (config := { maxSteps := 4000000 }) only [↓sxw,sxw,tf3,sxu,sxl,sxm,simprocAttr,y0,y1,e7,f7,dn]
 first | refine amid (at_1 hrdR1 lmc_len hq rfl fun ad1=>?_) | refine at_1 hrdR1 lmc_len hq rfl fun ad1=>?_ | refine (at_1 hrdR1 lmc_len hq rfl fun ad1=>?_).2.2 | refine (at_1 hrdR1 lmc_len hq rfl fun ad1=>?_).2
 unfold lmv
 simp (config := { maxSteps := 4000000 }) only [↓sxw,sxw,tf3,sxu,sxl,sxm,simprocAttr,e7,f7,dn]
 first | refine amid (at_1 hrdq1 i1_len hn rfl fun ad2=>?_) | refine at_1 hrdq1 i1_len hn rfl fun ad2=>?_ | refine (at_1 hrdq1 i1_len hn rfl fun ad2=>?_).2.2 | refine (at_1 hrdq1 i1_len hn rfl fun ad2=>?_).2
 simp (config := { maxSteps := 4000000 }) only [↓sxw,sxw,tf3,sxu,sxl,sxm,simprocAttr,y0,y1,y2,e9,f8,dn]
 exact ⟨k + 1,_,rfl,HImp.app _ _ _,⟨by omega,hHN⟩,by omega⟩
end Go.Proofs.YtljpknnhimkkjaaGreatDoor
