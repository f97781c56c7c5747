/- A part of a proof: the symbolic walk and what it shows of single functions. -/
import Derived.Test.YtljpknnhimkkjaaGreatDoorH5
import Derived.Test.YtljpknnhimkkjaaGreatDoorH4
set_option linter.all false
namespace Go.Proofs.YtljpknnhimkkjaaGreatDoor
open Go.RowKit Go.SX
set_option maxRecDepth 10000
set_option maxHeartbeats 0
set_option linter.unusedSimpArgs false
set_option linter.unusedVariables false
theorem arvM_ne {c:Cht} {b:Bse} {cell beg:Nat}:∀ m,arvM c b cell beg m ≠ -1 → ∃ t,beg ≤ t ∧ t < beg + m ∧ 0 ≤ (reachL c b.cls b.rmp t).getD cell 0
 | 0,h=>absurd rfl h
 | m + 1,h=>by
  rw [arvM] at h
  split at h
  ·rename_i h1
   exact ⟨beg + m,by omega,by omega,h1.1⟩
  ·obtain ⟨t,h1,h2,h3⟩:=arvM_ne m h
   exact ⟨t,h1,by omega,h3⟩
theorem helped_at {x:Cst} (hok:x.ok) {k:Nat} {call:Int} {mc ml:Int} (hm:x.marks[k]? = some (mc,ml)) (h:rchB x k call (setI [-1]) = true):∃ (i:Nat) (b:Bse) (t:Nat),x.bases[i]? = some b ∧ musE b.stn call b.seats x.length = 0 ∧ musT b.stn call b.seats x.length ≤ (t:Int) ∧ t < x.cht.tide.length ∧ rdyB x.cht b.cls b.rmp t = true ∧ 0 ≤ outV x.cht b.cls b.rmp.cell.toNat t (x.cht.tide.length - t) mc.toNat:=by
 rw [rch_set (by omega),List.any_eq_true] at h
 obtain ⟨i,hi,h⟩:=h
 have hi:=List.mem_range.1 hi
 rw [Bool.and_eq_true] at h
 obtain ⟨b,hb⟩:∃ b,x.bases[i]? = some b:=⟨_,List.getElem?_eq_getElem hi⟩
 have h:=h.2
 rw [hit_at hb hm,Bool.and_eq_true,decide_eq_true_eq] at h
 have h1:=h.1
 have hmk:=hok.mar _ (List.mem_of_getElem? hm)
 simp only [] at hmk
 unfold arv at h1
 split at h1
 ·rename_i h2
  have hmt:=musT_bnd h2
  obtain ⟨t,q1,q2,q3⟩:=arvM_ne _ h1
  unfold reachL at q3
  split at q3
  ·rename_i q4
   rw [List.getD_eq_getElem?_getD,List.getElem?_map,List.getElem?_range (by omega)] at q3
   exact ⟨i,b,t,hb,h2,by omega,by omega,q4,q3⟩
  ·rw [List.getD_eq_getElem?_getD,List.getElem?_replicate,if_pos (by omega)] at q3
   simp at q3
 ·exact absurd rfl h1
theorem go_shape {c:Cht} {b:Cls} {r:Rmp} {t tc:Int} {q:Value} {N:List HO} (hE:goE c b r t 0 tc 0 = 0) (h:GoP c b r t 0 tc 0 q N):∃ R a n k B,q = .tuple #[I R,.agg #[.slice a n k,I B],I 0] ∧ (rdyB c b r t.toNat = true → 0 ≤ outV c b r.cell.toNat t.toNat (c.tide.length - t.toNat) tc.toNat → R ≠ 1 ∧ R ≠ 2):=by
 rcases h with ⟨h,_⟩ | ⟨_,⟨why,rfl,h⟩ | ⟨_,_,m,B,L,x,_,_,_,_,rfl,hg⟩⟩
 ·exact absurd hE h
 ·refine ⟨why,none,0,0,0,rfl,fun h1 h2=>?_⟩
  unfold Vg.Why Vg.near Vg.of at h
  simp only [] at h
  rcases h with ⟨_,h3⟩ | ⟨_,⟨_,h3⟩ | ⟨_,⟨h3,_⟩ | ⟨h3,_⟩⟩⟩
  ·rw [h1] at h3
   cases h3
  ·omega
  ·omega
  ·omega
 ·obtain ⟨a,k,rfl⟩:=hg.shape
  exact ⟨0,a,_,k,B,rfl,fun _ _=>⟨by omega,by omega⟩⟩
def pl14_19:Plan:=(ones [0,2,4,6,7,9] (.ld 1 (.ld 3 (.ld 5 (.ld 8 (ones [10,11] (.ld 12 (ones [13] (.pre 19 (ones [14,15,16,17,18,19,20] (.kl 21 (ones [22] .fin))))))))))))
def pl14:List (Nat × Plan):=[(19,pl14_19)]
theorem pl14_lk:(lkO 19 pl14 = some pl14_19):=rfl
theorem topHelped_fn (w:World) (hw:Ways w) (v:Value) (x:Cst) (hx:CoOk w v x) (mk call:Int):SX.Fn Tryz.prog 14 [v,I mk,I call] w (fun _=>False) fun r N=>r = .bool true:=by
 have dn:∀ (g:Nat) (xs:List Value),det0 g xs = none:=fun _ _=>rfl
 have hfa:=fun (H:List HO) w' (hp:Hp ⟨w,fun _=>False⟩ H w')=>far8_fn w' v x (hx.hp hp)
 have hck:=fun (hsm:x.small) (H:List HO) w' (hp:Hp ⟨w,fun _=>False⟩ H w')=>rcheck8_fn w' (hw.hp hp) v x (hx.hp hp) hsm
 have hwo:=fun (H:List HO) w' (hp:Hp ⟨w,fun _=>False⟩ H w')=>watched_fn w' (hw.hp hp)
 have hga:=fun (hsm:x.small) (H:List HO) w' (hp:Hp ⟨w,fun _=>False⟩ H w')=>Gaps_fn w' (hw.hp hp) v x (hx.hp hp) hsm call
 obtain ⟨sD,sT,sS,vb,vm,pb,rfl,hC,h2,h3,h4,h5⟩:=hx
 have hmu:=fun (hsm:x.small) (p:Bm) (hpm:p ∈ pb) (H:List HO) w' (hp:Hp ⟨w,fun _=>False⟩ H w')=>muster1_fn w' _ p.1.stn ((h4 p hpm).hp hp).1 (hsm.bas p.1 (by rw [← h2]; exact List.mem_map_of_mem hpm)).1 call p.2.2 p.1.seats ((h4 p hpm).hp hp).2 (by have:=(hsm.bas p.1 (by rw [← h2]; exact List.mem_map_of_mem hpm)).2; omega) x.length
 have hgo:=fun (hsm:x.small) (p:Bm) (t tc:Int) (H:List HO) w' (hp:Hp ⟨w,fun _=>False⟩ H w')=>go5_fn w' (hw.hp hp) _ x.cht (hC.hp hp) hsm.cht p.1.cls p.1.rmp t 0 tc 0
 have hone:=fun (p:Bm) (hp:p ∈ pb)=>bac_one (h4 p hp)
 have hpl:pb.length = x.bases.length:=by rw [← h2,List.length_map]
 obtain ⟨hD,hT,hS⟩:=hC.parts
 obtain ⟨aD,nD,cD,rfl⟩:=hD.shape
 obtain ⟨aS,nS,cS,rfl⟩:=hS.shape
 obtain ⟨aT,nT,cT,rfl⟩:=hT.shape
 have hn2:=hT.le spc_len (by omega)
 obtain ⟨aB,nB,cB,rfl⟩:=h3.shape
 have hn4:=h3.le bac_len (by omega)
 obtain ⟨aM,nM,cM,rfl⟩:=h5.shape
 have hn5:=h5.le spc_len (by omega)
 subst hn2 hn4 hn5
 have hrB:=fun H=>h3.rd0 H
 have hrM:=fun H=>h5.rd0 H
 unfold FarP at hfa
 unfold GapP at hga
 unfold TLE snv at hmu
 unfold clv rmv at hgo
 unfold cov at hfa hck hga ⊢
 refine walkC [3] [17] pl14 (det0_ok _ _) Tryz.func14 rfl Tryz.ntmps14 res14 (by kernel_rfl) no_facts ?_
 simp (config := { maxSteps := 4000000 }) only [↓sxw,sxw,tf14,sxu,sxl,sxm,simprocAttr,dn]
 refine cut_constH [(19,46)] (fun b:Bool=>[(46,.bool b)]) (fun b H2=>H2 = [] ∧ (b = false → x.small ∧ x.ok ∧ (0 ≤ call ∧ call < x.calls) ∧ 0 ≤ mk ∧ mk < x.marks.length)) ?_ ?_
 ·refine ⟨?_⟩
  simp (config := { maxSteps := 4000000 }) only [↓sxw,sxw,tf14,sxu,sxl,sxm,simprocAttr,dn]
  refine CallOb.pureH (fun w' hp=>hfa _ w' hp) ?_
  rintro r N ⟨b,rfl,hb⟩
  cases b with
  | true=>
   refine ⟨?_⟩
   simp (config := { maxSteps := 4000000 }) only [↓sxw,sxw,tf14,sxu,sxl,sxm,simprocAttr,dn]
   exact ⟨true,_,rfl,HImp.nil _ _,rfl,fun h=>by cases h⟩
  | false=>
  obtain ⟨hsm,_⟩:=hb rfl
  refine ⟨?_⟩
  simp (config := { maxSteps := 4000000 }) only [↓sxw,sxw,tf14,sxu,sxl,sxm,simprocAttr,dn]
  refine CallOb.pureH (fun w' hp=>hck hsm _ w' hp) ?_
  rintro r N2 rfl
  obtain ⟨OK,hOK⟩:∃ b,x.okB = b:=⟨_,rfl⟩
  rw [hOK]
  cases OK with
  | false=>
   refine ⟨?_⟩
   simp (config := { maxSteps := 4000000 }) only [↓sxw,sxw,tf14,sxu,sxl,sxm,simprocAttr,dn]
   exact ⟨true,_,rfl,HImp.nil _ _,rfl,fun h=>by cases h⟩
  | true=>
  have hok:=(Cst.okB_iff x).1 hOK
  by_cases c0:call < 0
  ·have z0:(call < 0) = True:=eq_true c0
   refine ⟨?_⟩
   simp (config := { maxSteps := 4000000 }) only [↓sxw,sxw,tf14,sxu,sxl,sxm,simprocAttr,z0,dn]
   exact ⟨true,_,rfl,HImp.nil _ _,rfl,fun h=>by cases h⟩
  have z0:(call < 0) = False:=eq_false c0
  by_cases c1:call ≥ x.calls
  ·have z1:(call ≥ x.calls) = True:=eq_true c1
   refine ⟨?_⟩
   simp (config := { maxSteps := 4000000 }) only [↓sxw,sxw,tf14,sxu,sxl,sxm,simprocAttr,z0,z1,dn]
   exact ⟨true,_,rfl,HImp.nil _ _,rfl,fun h=>by cases h⟩
  have z1:(call ≥ x.calls) = False:=eq_false c1
  by_cases c2:mk < 0
  ·have z2:(mk < 0) = True:=eq_true c2
   refine ⟨?_⟩
   simp (config := { maxSteps := 4000000 }) only [↓sxw,sxw,tf14,sxu,sxl,sxm,simprocAttr,z0,z1,z2,dn]
   exact ⟨true,_,rfl,HImp.nil _ _,rfl,fun h=>by cases h⟩
  have z2:(mk < 0) = False:=eq_false c2
  by_cases c3:mk ≥ (x.marks.length:Int)
  ·have z3:(mk ≥ (x.marks.length:Int)) = True:=eq_true c3
   refine ⟨?_⟩
   simp (config := { maxSteps := 4000000 }) only [↓sxw,sxw,tf14,sxu,sxl,sxm,simprocAttr,z0,z1,z2,z3,dn]
   exact ⟨true,_,rfl,HImp.nil _ _,rfl,fun h=>by cases h⟩
  have z3:(mk ≥ (x.marks.length:Int)) = False:=eq_false c3
  refine ⟨?_⟩
  simp (config := { maxSteps := 4000000 }) only [↓sxw,sxw,tf14,sxu,sxl,sxm,simprocAttr,z0,z1,z2,z3,dn]
  exact ⟨false,_,rfl,HImp.nil _ _,rfl,fun _=>⟨hsm,hok,⟨by omega,by omega⟩,by omega,by omega⟩⟩
 rintro b H2 g2 ⟨rfl,hb⟩
 cases b with
 | true=>
  refine ⟨?_⟩
  simp (config := { maxSteps := 4000000 }) only [↓sxw,sxw,tf14,sxu,sxl,sxm,simprocAttr,dn]
  refine CallOb.pureH (fun w' hp=>hwo _ w' hp) ?_
  rintro r N rfl
  refine ⟨?_⟩
  simp (config := { maxSteps := 4000000 }) only [↓sxw,sxw,tf14,sxu,sxl,sxm,simprocAttr,dn]
  try rfl
 | false=>
 obtain ⟨hsm,hok,⟨hc0,hc1⟩,hm0,hm1⟩:=hb rfl
 have hE:=calE_of hok hc0 hc1
 have hga:=hga hsm
 have hmu:=hmu hsm
 have hgo:=hgo hsm
 have hnb:=hsm.nb
 have hnm:=hsm.nm
 have htl:=hsm.cht.2.1
 have hcal:=hok.cal
 obtain ⟨mn,rfl⟩:∃ A:Nat,mk = A:=⟨mk.toNat,by omega⟩
 obtain ⟨m,hm⟩:∃ m,x.marks[mn]? = some m:=⟨_,List.getElem?_eq_getElem (by omega)⟩
 obtain ⟨mc,ml⟩:=m
 have hmk:=hok.mar _ (List.mem_of_getElem? hm)
 simp only [] at hmk
 have hgap:=gap_iff (x:=x) (call:=call) (k:=mn) (by omega) (base:=-1) ⟨by omega,by omega⟩
 have hgl:=gapK_small hsm call
 obtain ⟨GL,hGL⟩:∃ L,gapK x call x.marks.length = L:=⟨_,rfl⟩
 rw [hGL] at hgap hgl
 rw [hE,hGL] at hga
 have hhel:=helped_at hok hm (call:=call)
 have zm:((mn:Int) < (x.marks.length:Int)) = True:=eq_true (by omega)
 refine ⟨?_⟩
 simp (config := { maxSteps := 4000000 }) only [↓sxw,sxw,tf14,sxu,sxl,sxm,simprocAttr,dn]
 refine CallOb.pureH (fun w' hp=>hga _ w' hp) ?_
 rintro r N (⟨h,_⟩ | ⟨_,vA,rfl,hg⟩)
 ·exact absurd rfl h
 have hgs:=hg.shape
 obtain ⟨aG,cG,rfl⟩:=hgs
 have hrG:=fun G (hG:∀ g ∈ N,g ∈ G)=>hg.rdv (w0:=⟨w,fun _=>False⟩) (H:=G) spc_len hG
 refine ⟨?_⟩
 simp (config := { maxSteps := 4000000 }) only [↓sxw,sxw,tf14,sxu,sxl,sxm,simprocAttr,dn]
 refine loop_constH N (by first | exact HImp.refl _ _ | (simp only [List.append_nil]; exact HImp.refl _ _)) [(6,6),(9,9),(56,69)] (fun i:Nat=>[(9,I i)]) (fun i H1=>i ≤ GL.length ∧ H1 = N ∧ ∀ j,j < i → GL[j]? ≠ some ((mn:Int),-1)) (fun i=>GL.length - i) 0 ?_ ⟨Nat.zero_le _,rfl,fun j hj=>by omega⟩ ?_
 ·simp (config := { maxSteps := 4000000 }) only [↓sxw,sxw,tf14,sxu,sxl,sxm,simprocAttr]
  try simp
 rintro i H1 g1 ⟨hi,hH1,hno⟩
 subst hH1
 by_cases hin:i = GL.length
 case neg=>
  have e7:((i:Int) < (GL.length:Int)) = True:=eq_true (by omega)
  have e8:wr (i + 1) = ((i + 1:Nat):Int):=(wrap_id (by omega)).trans (by omega)
  obtain ⟨u,hu⟩:∃ u,GL[i]? = some u:=⟨_,List.getElem?_eq_getElem (by omega)⟩
  have hq:=eq_gap u ((mn:Int),-1)
  have hrG1:=hrG H1 fun g hg=>hg
  by_cases hum:u = ((mn:Int),-1)
  ·rw [decide_eq_true hum] at hq
   refine ⟨?_⟩
   simp (config := { maxSteps := 4000000 }) only [↓sxw,sxw,tf14,sxu,sxl,sxm,simprocAttr,e7,dn]
   first | refine amid (at_n hrG1 spc_len (by omega) hu fun ad=>?_) | refine at_n hrG1 spc_len (by omega) hu fun ad=>?_ | refine (at_n hrG1 spc_len (by omega) hu fun ad=>?_).2.2 | refine (at_n hrG1 spc_len (by omega) hu fun ad=>?_).2
   unfold spc
   simp (config := { maxSteps := 4000000 }) only [↓sxw,sxw,tf14,sxu,sxl,sxm,simprocAttr,dn]
   refine ⟨_,hq,?_⟩
   simp (config := { maxSteps := 4000000 }) only [↓sxw,sxw,tf14,sxu,sxl,sxm,simprocAttr,dn]
   refine CallOb.pureH (fun w' hp=>hwo _ w' hp) ?_
   rintro r N2 rfl
   refine ⟨?_⟩
   simp (config := { maxSteps := 4000000 }) only [↓sxw,sxw,tf14,sxu,sxl,sxm,simprocAttr,dn]
   try rfl
  ·rw [decide_eq_false hum] at hq
   refine ⟨?_⟩
   simp (config := { maxSteps := 4000000 }) only [↓sxw,sxw,tf14,sxu,sxl,sxm,simprocAttr,e7,dn]
   first | refine amid (at_n hrG1 spc_len (by omega) hu fun ad=>?_) | refine at_n hrG1 spc_len (by omega) hu fun ad=>?_ | refine (at_n hrG1 spc_len (by omega) hu fun ad=>?_).2.2 | refine (at_n hrG1 spc_len (by omega) hu fun ad=>?_).2
   unfold spc
   simp (config := { maxSteps := 4000000 }) only [↓sxw,sxw,tf14,sxu,sxl,sxm,simprocAttr,dn]
   refine ⟨_,hq,?_⟩
   simp (config := { maxSteps := 4000000 }) only [↓sxw,sxw,tf14,sxu,sxl,sxm,simprocAttr,e8,dn]
   refine ⟨i + 1,_,rfl,HImp.refl _ _,⟨by omega,rfl,fun j hj=>?_⟩,by omega⟩
   by_cases hji:j < i
   ·exact hno j hji
   ·obtain rfl:j = i:=by omega
    rw [hu]
    exact fun h=>hum (Option.some.inj h)
 have e7:((i:Int) < (GL.length:Int)) = False:=eq_false (by omega)
 have hrt:rchB x mn call (setI [-1]) = true:=by
  rw [← Bool.not_eq_false]
  intro h
  obtain ⟨j,hj,hje⟩:=List.mem_iff_getElem.1 (hgap.2 h)
  exact hno j (by omega) (by rw [List.getElem?_eq_getElem hj,hje])
 obtain ⟨i0,b0,t0,hb0,hme0,hmt0,ht0,hrd0,hou0⟩:=hhel hrt
 have hi0:=(List.getElem?_eq_some_iff.1 hb0).1
 refine ⟨?_⟩
 simp (config := { maxSteps := 4000000 }) only [↓sxw,sxw,tf14,sxu,sxl,sxm,simprocAttr,e7,dn]
 refine loop_constH [] (HImp.nil _ _) [(6,6),(10,18),(70,134)] (fun i:Nat=>[(10,I i)]) (fun i H1=>i ≤ i0 ∧ H1 = []) (fun i=>i0 - i) 0 ?_ ⟨Nat.zero_le _,rfl⟩ ?_
 ·simp (config := { maxSteps := 4000000 }) only [↓sxw,sxw,tf14,sxu,sxl,sxm,simprocAttr]
  try simp
 rintro i H2 g2 ⟨hi,rfl⟩
 have e7:((i:Int) < (pb.length:Int)) = True:=eq_true (by omega)
 have e8:wr (i + 1) = ((i + 1:Nat):Int):=(wrap_id (by omega)).trans (by omega)
 obtain ⟨p,hp⟩:∃ p,pb[i]? = some p:=⟨_,List.getElem?_eq_getElem (by omega)⟩
 have hy:x.bases[i]? = some p.1:=by rw [← h2,List.getElem?_map,hp]; rfl
 have hpm:=List.mem_of_getElem? hp
 have hym:p.1 ∈ x.bases:=List.mem_of_getElem? hy
 have hb0p:i = i0 → b0 = p.1:=fun h=>by
  rw [← h,hy] at hb0
  exact (Option.some.inj hb0).symm
 obtain ⟨ho1,ho2⟩:=hone p hpm
 have hmu:=hmu p hpm
 have hgo:=hgo p
 have hmt:=fun h=>musT_bnd (s:=p.1.stn) (call:=call) (seats:=p.1.seats) (len:=x.length) h
 have hm0e:i = i0 → musE p.1.stn call p.1.seats x.length = 0 ∧ musT p.1.stn call p.1.seats x.length ≤ (t0:Int):=fun h=>by
  rw [← hb0p h]
  exact ⟨hme0,hmt0⟩
 obtain ⟨ME,hME⟩:∃ e,musE p.1.stn call p.1.seats x.length = e:=⟨_,rfl⟩
 obtain ⟨MT,hMT⟩:∃ e,musT p.1.stn call p.1.seats x.length = e:=⟨_,rfl⟩
 rw [hME,hMT] at hmt hm0e
 simp only [hME,hMT] at hmu
 have hgoE:∀ t:Int,0 ≤ t → t < x.cht.tide.length → goE x.cht p.1.cls p.1.rmp t 0 mc 0 = 0:=fun t q1 q2=>by
  unfold goE
  rw [sta_rmp,← sta_rmp0 hok.cht,(hok.bas p.1 hym).1,if_pos rfl,(inB_iff t _ _).2 (by omega),(inB_iff mc _ _).2 (by omega)]
  rfl
 refine ⟨?_⟩
 simp (config := { maxSteps := 4000000 }) only [↓sxw,sxw,tf14,sxu,sxl,sxm,simprocAttr,e7,dn]
 first | refine amid (at_n (hrB _) bac_len (by omega) hp fun ad=>?_) | refine at_n (hrB _) bac_len (by omega) hp fun ad=>?_ | refine (at_n (hrB _) bac_len (by omega) hp fun ad=>?_).2.2 | refine (at_n (hrB _) bac_len (by omega) hp fun ad=>?_).2
 unfold bac
 simp (config := { maxSteps := 4000000 }) only [↓sxw,sxw,tf14,sxu,sxl,sxm,simprocAttr,ho1,ho2,dn]
 refine CallOb.pureH (fun w' hp'=>hmu _ w' hp') ?_
 rintro r N2 ⟨z,rfl,hz⟩
 have hzs:=hz.shape
 obtain ⟨az,cz,rfl⟩:=hzs
 by_cases hE0:ME = 0
 case neg=>
  have y1:(ME = 0) = False:=eq_false hE0
  refine ⟨?_⟩
  simp (config := { maxSteps := 4000000 }) only [↓sxw,sxw,tf14,sxu,sxl,sxm,simprocAttr,dn]
  refine loop_constH [] (HImp.nil _ _) [(6,6),(15,18),(95,134)] (fun m:Nat=>[(15,I MT)]) (fun m H1=>H1 = []) (fun m=>0) 0 ?_ rfl ?_
  ·simp (config := { maxSteps := 4000000 }) only [↓sxw,sxw,tf14,sxu,sxl,sxm,simprocAttr]
   try simp
  rintro _ H3 g3 rfl
  refine ⟨?_⟩
  simp (config := { maxSteps := 4000000 }) only [↓sxw,sxw,tf14,sxu,sxl,sxm,simprocAttr,y1,e8,dn]
  refine ⟨i + 1,_,rfl,HImp.refl _ _,⟨?_,rfl⟩,by
   have:i ≠ i0:=fun h=>hE0 (hm0e h).1
   omega⟩
  have:i ≠ i0:=fun h=>hE0 (hm0e h).1
  omega
 have y1:(ME = 0) = True:=eq_true hE0
 have hmt:=hmt hE0
 obtain ⟨beg,rfl⟩:∃ beg:Nat,MT = beg:=⟨MT.toNat,by omega⟩
 refine ⟨?_⟩
 simp (config := { maxSteps := 4000000 }) only [↓sxw,sxw,tf14,sxu,sxl,sxm,simprocAttr,dn]
 refine loop_constH [] (HImp.nil _ _) [(6,6),(15,18),(95,134)] (fun m:Nat=>[(15,I ((beg + m:Nat):Int))]) (fun m H1=>H1 = [] ∧ (i = i0 → beg + m ≤ t0)) (fun m=>x.cht.tide.length - (beg + m)) 0 ?_ ⟨rfl,fun h=>by have:=(hm0e h).2; omega⟩ ?_
 ·simp (config := { maxSteps := 4000000 }) only [↓sxw,sxw,tf14,sxu,sxl,sxm,simprocAttr]
  try simp
 rintro m H3 g3 ⟨rfl,hmm⟩
 by_cases hmn:x.cht.tide.length ≤ beg + m
 ·have f7:(((beg + m:Nat):Int) < (x.cht.tide.length:Int)) = False:=eq_false (by omega)
  have hii:i ≠ i0:=fun h=>by have:=hmm h; omega
  refine ⟨?_⟩
  simp (config := { maxSteps := 4000000 }) only [↓sxw,sxw,tf14,sxu,sxl,sxm,simprocAttr,y1,f7,e8,dn]
  exact ⟨i + 1,_,rfl,HImp.refl _ _,⟨by omega,rfl⟩,by omega⟩
 have f7:(((beg + m:Nat):Int) < (x.cht.tide.length:Int)) = True:=eq_true (by omega)
 have f8:wr (((beg + m:Nat):Int) + 1) = ((beg + (m + 1):Nat):Int):=(wrap_id (by omega)).trans (by omega)
 have hgoE:=hgoE ((beg + m:Nat):Int) (by omega) (by omega)
 have hgo:=fun H w' hp=>Fn.mono (hgo ((beg + m:Nat):Int) mc H w' hp) fun q N h=>go_shape hgoE h
 have hst:∀ R:Int,(rdyB x.cht p.1.cls p.1.rmp ((beg + m:Nat):Int).toNat = true → 0 ≤ outV x.cht p.1.cls p.1.rmp.cell.toNat ((beg + m:Nat):Int).toNat (x.cht.tide.length - ((beg + m:Nat):Int).toNat) mc.toNat → R ≠ 1 ∧ R ≠ 2) → (R = 1 ∨ R = 2) → (i = i0 → beg + m ≠ t0):=fun R h1 h2 h3 h4=>by
  have hbp:=hb0p h3
  rw [Int.toNat_natCast,h4,← hbp] at h1
  have:=h1 hrd0 hou0
  omega
 refine ⟨?_⟩
 simp (config := { maxSteps := 4000000 }) only [↓sxw,sxw,tf14,sxu,sxl,sxm,simprocAttr,y1,f7,zm,dn,pl14_lk,pl14_19]
 first | refine amid (at_f (hrM _) spc_len hm (o:=0) (x:=I mc) rfl fun ad=>?_) | refine at_f (hrM _) spc_len hm (o:=0) (x:=I mc) rfl fun ad=>?_ | refine (at_f (hrM _) spc_len hm (o:=0) (x:=I mc) rfl fun ad=>?_).2.2 | refine (at_f (hrM _) spc_len hm (o:=0) (x:=I mc) rfl fun ad=>?_).2
 simp (config := { maxSteps := 4000000 }) only [↓sxw,sxw,tf14,sxu,sxl,sxm,simprocAttr,dn,pl14_lk,pl14_19]
 refine CallOb.pureH (fun w' hp'=>hgo _ w' hp') ?_
 rintro r N4 ⟨R,a4,n4,k4,B4,rfl,hR⟩
 have hst:=hst R hR
 by_cases r1:R = 1
 ·have y2:(R = 1) = True:=eq_true r1
  have y3:(R != 1) = false:=by simp [r1]
  refine ⟨?_⟩
  simp (config := { maxSteps := 4000000 }) only [↓sxw,sxw,tf14,sxu,sxl,sxm,simprocAttr,dn]
  intro b17
  refine wr_cell (A:=[]) rfl (by simp) ?_
  simp (config := { maxSteps := 4000000 }) only [↓sxw,sxw,tf14,sxu,sxl,sxm,simprocAttr,y2,y3,f8,dn]
  exact ⟨m + 1,_,rfl,HImp.nil _ _,⟨rfl,fun h=>by have:=hmm h; have:=hst (.inl r1) h; omega⟩,by omega⟩
 have y2:(R = 1) = False:=eq_false r1
 have y3:(R != 1) = true:=by simp [r1]
 by_cases r2:R = 2
 ·have y4:(R = 2) = True:=eq_true r2
  have y5:(R != 2) = false:=by simp [r2]
  refine ⟨?_⟩
  simp (config := { maxSteps := 4000000 }) only [↓sxw,sxw,tf14,sxu,sxl,sxm,simprocAttr,dn]
  intro b17
  refine wr_cell (A:=[]) rfl (by simp) ?_
  simp (config := { maxSteps := 4000000 }) only [↓sxw,sxw,tf14,sxu,sxl,sxm,simprocAttr,y2,y3,y4,y5,f8,dn]
  exact ⟨m + 1,_,rfl,HImp.nil _ _,⟨rfl,fun h=>by have:=hmm h; have:=hst (.inr r2) h; omega⟩,by omega⟩
 have y4:(R = 2) = False:=eq_false r2
 have y5:(R != 2) = true:=by simp [r2]
 refine ⟨?_⟩
 simp (config := { maxSteps := 4000000 }) only [↓sxw,sxw,tf14,sxu,sxl,sxm,simprocAttr,dn]
 intro b17
 refine wr_cell (A:=[]) rfl (by simp) ?_
 simp (config := { maxSteps := 4000000 }) only [↓sxw,sxw,tf14,sxu,sxl,sxm,simprocAttr,y2,y3,y4,y5,f8,dn]
 refine CallOb.pureH (fun w' hp'=>hwo _ w' hp') ?_
 rintro r N5 rfl
 refine ⟨?_⟩
 simp (config := { maxSteps := 4000000 }) only [↓sxw,sxw,tf14,sxu,sxl,sxm,simprocAttr,dn]
 try rfl
end Go.Proofs.YtljpknnhimkkjaaGreatDoor
