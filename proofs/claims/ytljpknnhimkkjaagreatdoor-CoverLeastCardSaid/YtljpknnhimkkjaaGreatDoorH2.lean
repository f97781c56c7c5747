/- Parts of a proof: the symbolic walk and what it shows of single functions. -/
import Derived.Test.YtljpknnhimkkjaaGreatDoorH1
set_option linter.all false
namespace Go.Proofs.YtljpknnhimkkjaaGreatDoor
open Go.RowKit Go.SX
set_option maxRecDepth 10000
set_option maxHeartbeats 0
set_option linter.unusedSimpArgs false
set_option linter.unusedVariables false
theorem tim_merge {x:Cst} {K K1 K2:List (Int × Value)} {D1 D2:List HO} (h1:∀ e ∈ K1,e ∈ K ∨ RwD x D1 e) (h2:∀ e ∈ K2,e ∈ K1 ∨ RwD x D2 e):∀ e ∈ K2,e ∈ K ∨ RwD x (D2 ++ D1) e:=fun e he=>by
 rcases h2 e he with h | h
 ·exact (h1 e h).imp_right fun h=>h.mono fun g hg=>List.mem_append_right _ hg
 ·exact .inr (h.mono fun g hg=>List.mem_append_left _ hg)
theorem range_drop {n i:Nat} (h:i < n):(List.range n).drop i = i :: (List.range n).drop (i + 1):=by
 rw [List.drop_eq_getElem_cons (by rw [List.length_range]; omega),List.getElem_range]
theorem covered_fn (w:World) (bc bm:Nat) (sD sT sS vb vm:Value) (x:Cst) (pb:List Bm) (hc:CoW w (fun b=>b = bm) bc bm sD sT sS vb vm x pb) (hsm:x.small) (hok:x.ok) (K:List (Int × Value)) (hm:HO.ok w (mapO .i64 bm K)) (hK:KOk w (fun b=>b = bm) x K) (call:Int) (hcl:0 ≤ call ∧ call ≤ 100) (away:Nat) (hay:away < 32):
  SX.Fn Tryz.prog 97 [.pointer (some ⟨bc,0,none⟩),I call,.int .u64 away] w (fun b=>b = bm) (TimP x bm K fun r _=>r = .bool (covB x call away)):=by
 refine Fn.sub ?_
 have dn:∀ (g:Nat) (xs:List Value),det0 g xs = none:=fun _ _=>rfl
 have hre:=fun (k:Nat) (hk:k < x.marks.length) K1 D1 (hK1:∀ e ∈ K1,e ∈ K ∨ RwD x D1 e) w' (hp':Hp ⟨w,fun b=>b = bm⟩ ([mapO .i64 bm K1] ++ D1) w')=>reached_fn w' bc bm sD sT sS vb vm x pb (hc.keep hp'.ext) hsm hok K1 (hp'.ok _ (by simp)) (hK.of hK1 hp') k hk call hcl away hay
 have nc:¬ (bc = bm):=hc.nc
 have hnm:=hok.nm
 have c6:=hc.cel 6 _ rfl
 obtain ⟨aM,nM,cM,rfl⟩:=hc.mar.1.shape
 have hnM:=hc.mar.1.le spc_len (by omega)
 subst hnM
 have hR:covB x call away = (List.range x.marks.length).all fun k=>rchB x k call away:=rfl
 obtain ⟨RR,hRR⟩:∃ b,covB x call away = b:=⟨_,rfl⟩
 rw [hRR] at hR
 unfold TimP
 rw [hRR]
 refine walk [] [] (det0_ok _ _) Tryz.func97 rfl Tryz.ntmps97 res97 (by kernel_rfl) (H0:=[mapO .i64 bm K]) ⟨fun g hg=>by rw [List.mem_singleton] at hg; subst hg; exact hm,fun g hg b hb=>by rw [List.mem_singleton] at hg; subst hg; exact hb,List.pairwise_singleton _ _⟩ ?_
 simp (config := { maxSteps := 4000000 }) only [↓sxw,sxw,tf97,sxu,sxl,sxm,simprocAttr,dn]
 refine ld_olda (b:=bc) (o:=6) (by simp [add_block]) c6 nc ?_
 simp (config := { maxSteps := 4000000 }) only [↓sxw,sxw,tf97,sxu,sxl,sxm,simprocAttr,dn]
 refine loop_constH [mapO .i64 bm K] (HImp.refl _ _) [(6,7),(14,23)] (fun i:Nat=>[(14,I i)]) (fun i H1=>i ≤ x.marks.length ∧ (∃ K1 D1,H1 = mapO .i64 bm K1 :: D1 ∧ ∀ e ∈ K1,e ∈ K ∨ RwD x D1 e) ∧ RR = ((List.range x.marks.length).drop i).all fun k=>rchB x k call away) (fun i=>x.marks.length - i) 0 ?_ ⟨Nat.zero_le _,⟨K,[],rfl,fun e he=>.inl he⟩,hR⟩ ?_
 ·simp (config := { maxSteps := 4000000 }) only [↓sxw,sxw,tf97,sxu,sxl,sxm,simprocAttr]
  try simp
 rintro i H1 g1 ⟨hi,⟨K1,D1,rfl,hK1⟩,hinv⟩
 by_cases hin:i = x.marks.length
 ·have e7:((i:Int) < (x.marks.length:Int)) = False:=eq_false (by omega)
  rw [List.drop_of_length_le (by rw [List.length_range]; omega)] at hinv
  rw [hinv]
  refine ⟨?_⟩
  simp (config := { maxSteps := 4000000 }) only [↓sxw,sxw,tf97,sxu,sxl,sxm,simprocAttr,e7,dn]
  first | exact ⟨_,List.Sublist.refl _,K1,D1,rfl,hK1,rfl⟩ | exact ⟨_,List.Sublist.refl _,K1,D1,rfl,hK1⟩
 have e7:((i:Int) < (x.marks.length:Int)) = True:=eq_true (by omega)
 have e8:wr (i + 1) = ((i + 1:Nat):Int):=(wrap_id (by omega)).trans (by omega)
 rw [range_drop (by omega),List.all_cons] at hinv
 have hri:=hre i (by omega) K1 D1 hK1
 obtain ⟨B,hB⟩:∃ B,rchB x i call away = B:=⟨_,rfl⟩
 rw [hB] at hinv
 simp only [hB] at hri
 refine ⟨?_⟩
 simp (config := { maxSteps := 4000000 }) only [↓sxw,sxw,tf97,sxu,sxl,sxm,simprocAttr,e7,dn]
 refine CallOb.mutH (A:=[mapO .i64 bm K1]) (B:=D1) (HImp.refl _ _) fps_map (fun w' hp=>by rw [fpsx_map]; exact hri w' hp) ?_ (Post:=TimP x bm K1 fun r _=>r = .bool B)
 rintro r N ⟨K2,D2,rfl,hK2,rfl⟩
 have hK3:=tim_merge hK1 hK2
 cases B with
 | false=>
  rw [Bool.false_and] at hinv
  rw [hinv]
  refine ⟨?_⟩
  simp (config := { maxSteps := 4000000 }) only [↓sxw,sxw,tf97,sxu,sxl,sxm,simprocAttr,dn]
  first | exact ⟨_,List.Sublist.refl _,K2,D2 ++ D1,rfl,hK3,rfl⟩ | exact ⟨_,List.Sublist.refl _,K2,D2 ++ D1,rfl,hK3⟩
 | true=>
  rw [Bool.true_and] at hinv
  refine ⟨?_⟩
  simp (config := { maxSteps := 4000000 }) only [↓sxw,sxw,tf97,sxu,sxl,sxm,simprocAttr,e8,dn]
  exact ⟨i + 1,_,rfl,HImp.refl _ _,⟨by omega,⟨K2,D2 ++ D1,rfl,hK3⟩,hinv⟩,by omega⟩
theorem always_fn (w:World) (bc bm:Nat) (sD sT sS vb vm:Value) (x:Cst) (pb:List Bm) (hc:CoW w (fun b=>b = bm) bc bm sD sT sS vb vm x pb) (hsm:x.small) (hok:x.ok) (K:List (Int × Value)) (hm:HO.ok w (mapO .i64 bm K)) (hK:KOk w (fun b=>b = bm) x K) (away:Nat) (hay:away < 32):
  SX.Fn Tryz.prog 83 [.pointer (some ⟨bc,0,none⟩),.int .u64 away] w (fun b=>b = bm) (TimP x bm K fun r _=>r = .bool (alwB x away)):=by
 refine Fn.sub ?_
 have dn:∀ (g:Nat) (xs:List Value),det0 g xs = none:=fun _ _=>rfl
 have hcal:=hok.cal
 have htl:=hsm.cht.2.1
 obtain ⟨nc2,hnc⟩:∃ n:Nat,x.calls = n:=⟨x.calls.toNat,by omega⟩
 have hre:=fun (k:Nat) (hk:k < nc2) K1 D1 (hK1:∀ e ∈ K1,e ∈ K ∨ RwD x D1 e) w' (hp':Hp ⟨w,fun b=>b = bm⟩ ([mapO .i64 bm K1] ++ D1) w')=>covered_fn w' bc bm sD sT sS vb vm x pb (hc.keep hp'.ext) hsm hok K1 (hp'.ok _ (by simp)) (hK.of hK1 hp') (k:Int) (by omega) away hay
 have nc:¬ (bc = bm):=hc.nc
 have c8:=hc.cel 8 _ rfl
 have hR:alwB x away = (List.range nc2).all fun call=>covB x call away:=by unfold alwB; rw [hnc,Int.toNat_natCast]
 rw [hnc] at c8
 obtain ⟨RR,hRR⟩:∃ b,alwB x away = b:=⟨_,rfl⟩
 rw [hRR] at hR
 unfold TimP
 rw [hRR]
 refine walk [] [] (det0_ok _ _) Tryz.func83 rfl Tryz.ntmps83 res83 (by kernel_rfl) (H0:=[mapO .i64 bm K]) ⟨fun g hg=>by rw [List.mem_singleton] at hg; subst hg; exact hm,fun g hg b hb=>by rw [List.mem_singleton] at hg; subst hg; exact hb,List.pairwise_singleton _ _⟩ ?_
 simp (config := { maxSteps := 4000000 }) only [↓sxw,sxw,tf83,sxu,sxl,sxm,simprocAttr,dn]
 refine ld_olda (b:=bc) (o:=8) (by simp [add_block]) c8 nc ?_
 simp (config := { maxSteps := 4000000 }) only [↓sxw,sxw,tf83,sxu,sxl,sxm,simprocAttr,dn]
 refine loop_constH [mapO .i64 bm K] (HImp.refl _ _) [(4,5),(11,19)] (fun i:Nat=>[(11,I i)]) (fun i H1=>i ≤ nc2 ∧ (∃ K1 D1,H1 = mapO .i64 bm K1 :: D1 ∧ ∀ e ∈ K1,e ∈ K ∨ RwD x D1 e) ∧ RR = ((List.range nc2).drop i).all fun call=>covB x call away) (fun i=>nc2 - i) 0 ?_ ⟨Nat.zero_le _,⟨K,[],rfl,fun e he=>.inl he⟩,hR⟩ ?_
 ·simp (config := { maxSteps := 4000000 }) only [↓sxw,sxw,tf83,sxu,sxl,sxm,simprocAttr]
  try simp
 rintro i H1 g1 ⟨hi,⟨K1,D1,rfl,hK1⟩,hinv⟩
 by_cases hin:i = nc2
 ·have e7:((i:Int) < (nc2:Int)) = False:=eq_false (by omega)
  rw [List.drop_of_length_le (by rw [List.length_range]; omega)] at hinv
  rw [hinv]
  refine ⟨?_⟩
  simp (config := { maxSteps := 4000000 }) only [↓sxw,sxw,tf83,sxu,sxl,sxm,simprocAttr,e7,dn]
  first | exact ⟨_,List.Sublist.refl _,K1,D1,rfl,hK1,rfl⟩ | exact ⟨_,List.Sublist.refl _,K1,D1,rfl,hK1⟩
 have e7:((i:Int) < (nc2:Int)) = True:=eq_true (by omega)
 have e8:wr (i + 1) = ((i + 1:Nat):Int):=(wrap_id (by omega)).trans (by omega)
 rw [range_drop (by omega),List.all_cons] at hinv
 have hri:=hre i (by omega) K1 D1 hK1
 obtain ⟨B,hB⟩:∃ B,covB x (i:Int) away = B:=⟨_,rfl⟩
 rw [hB] at hinv
 simp only [hB] at hri
 refine ⟨?_⟩
 simp (config := { maxSteps := 4000000 }) only [↓sxw,sxw,tf83,sxu,sxl,sxm,simprocAttr,e7,dn]
 refine CallOb.mutH (A:=[mapO .i64 bm K1]) (B:=D1) (HImp.refl _ _) fps_map (fun w' hp=>by rw [fpsx_map]; exact hri w' hp) ?_ (Post:=TimP x bm K1 fun r _=>r = .bool B)
 rintro r N ⟨K2,D2,rfl,hK2,rfl⟩
 have hK3:=tim_merge hK1 hK2
 cases B with
 | false=>
  rw [Bool.false_and] at hinv
  rw [hinv]
  refine ⟨?_⟩
  simp (config := { maxSteps := 4000000 }) only [↓sxw,sxw,tf83,sxu,sxl,sxm,simprocAttr,dn]
  first | exact ⟨_,List.Sublist.refl _,K2,D2 ++ D1,rfl,hK3,rfl⟩ | exact ⟨_,List.Sublist.refl _,K2,D2 ++ D1,rfl,hK3⟩
 | true=>
  rw [Bool.true_and] at hinv
  refine ⟨?_⟩
  simp (config := { maxSteps := 4000000 }) only [↓sxw,sxw,tf83,sxu,sxl,sxm,simprocAttr,e8,dn]
  exact ⟨i + 1,_,rfl,HImp.refl _ _,⟨by omega,⟨K2,D2 ++ D1,rfl,hK3⟩,hinv⟩,by omega⟩
end Go.Proofs.YtljpknnhimkkjaaGreatDoor

namespace Go.Proofs.YtljpknnhimkkjaaGreatDoor
open Go.RowKit Go.SX
set_option maxRecDepth 10000
set_option maxHeartbeats 0
set_option linter.unusedSimpArgs false
set_option linter.unusedVariables false
def AskP (sD sT sS vb vm:Value) (x:Cst) (b:Bool) (r:Value) (N:List HO):Prop:=(x.okB = false ∧ r = .tuple #[.pointer none,I 80] ∧ N = []) ∨ (x.okB = true ∧ ∃ bc bm,r = .tuple #[.pointer (some ⟨bc,0,none⟩),I (if b then 0 else 1)] ∧ N = [HO.cells bc 117 (cov sD sT sS vb vm x ++ [.map (some bm)]),mapO .i64 bm []])
theorem ask_fn (w:World) (hw:Ways w) (sD sT sS vb vm:Value) (x:Cst) (pb:List Bm) (hC:ChOk w (.agg #[I x.cht.wide,I x.cht.high,sD,sT,sS]) x.cht) (h2:pb.map Prod.fst = x.bases) (h3:Sl w vb 16 (cat bac pb)) (h4:∀ p ∈ pb,BsOk w p) (h5:Sl w vm 2 (cat spc x.marks)) (hsm:x.small) (g:Nat) (cap:List Value) (hT:CallT Tryz.prog g) (b:Bool)
  (htold:x.ok → ∀ w' bc bm,CoW w' (fun _=>False) bc bm sD sT sS vb vm x pb → Keep (fun _=>False) w w' → SX.Fn Tryz.prog g (.pointer (some ⟨bc,0,none⟩) :: cap) w' (fun _=>False) fun r N=>r = .bool b):
  SX.Fn Tryz.prog 56 [.agg (cov sD sT sS vb vm x).toArray,.func (.func g) [].toArray cap.toArray] w (fun _=>False) (AskP sD sT sS vb vm x b):=by
 refine Fn.sub ?_
 have dn:∀ (g:Nat) (xs:List Value),det0 g xs = none:=fun _ _=>rfl
 have hop:=fun (H:List HO) w' (hp:Hp ⟨w,fun _=>False⟩ H w')=>open8_fn w' (hw.hp hp) sD sT sS vb vm x pb (hC.hp hp) h2 (h3.hp (fun _ _=>id) hp) (fun p hm=>(h4 p hm).hp hp) (h5.hp (fun _ _=>id) hp) hsm
 have hco:=fun (bc bm:Nat) (H:List HO) (hm:HO.cells bc 117 (cov sD sT sS vb vm x ++ [.map (some bm)]) ∈ H) w' (hp:Hp ⟨w,fun _=>False⟩ H w')=>(CoW.of (A:=[]) hp hw hm hC h2 h3 h4 h5).mono (Y:=fun _=>False) fun b hb=>hb.elim
 unfold AskP
 unfold OpP at hop
 unfold cov
 unfold cov at hop
 refine walk [] [] (det0_ok _ _) Tryz.func56 rfl Tryz.ntmps56 res56 (by kernel_rfl) no_facts ?_
 simp (config := { maxSteps := 4000000 }) only [↓sxw,sxw,tf56,sxu,sxl,sxm,simprocAttr,dn]
 refine CallOb.pureH (fun w' hp=>hop _ w' hp) ?_
 rintro r N (⟨ho,rfl,rfl⟩ | ⟨ho,bc,bm,rfl,rfl⟩)
 ·refine ⟨?_⟩
  simp (config := { maxSteps := 4000000 }) only [↓sxw,sxw,tf56,sxu,sxl,sxm,simprocAttr,dn]
  first | exact ⟨[],List.nil_sublist _,.inl ⟨ho,rfl,rfl⟩⟩ | exact ⟨[],List.nil_sublist _,.inl ⟨ho,rfl⟩⟩
 have hok:=(Cst.okB_iff x).1 ho
 refine ⟨?_⟩
 simp (config := { maxSteps := 4000000 }) only [↓sxw,sxw,tf56,sxu,sxl,sxm,simprocAttr,dn]
 refine ⟨hT,?_⟩
 refine CallOb.pureH (fun w' hp=>htold hok w' bc bm (hco bc bm _ (by unfold cov; simp) w' hp) hp.ext) ?_
 rintro r N rfl
 cases b with
 | false=>
  refine ⟨?_⟩
  simp (config := { maxSteps := 4000000 }) only [↓sxw,sxw,tf56,sxu,sxl,sxm,simprocAttr,dn]
  exact ⟨_,List.sublist_append_right _ _,.inr ⟨ho,bc,bm,by simp,by first | rfl | simp⟩⟩
 | true=>
  refine ⟨?_⟩
  simp (config := { maxSteps := 4000000 }) only [↓sxw,sxw,tf56,sxu,sxl,sxm,simprocAttr,dn]
  exact ⟨_,List.sublist_append_right _ _,.inr ⟨ho,bc,bm,by simp,by first | rfl | simp⟩⟩
end Go.Proofs.YtljpknnhimkkjaaGreatDoor

namespace Go.Proofs.YtljpknnhimkkjaaGreatDoor
open Go.RowKit Go.SX
set_option maxRecDepth 10000
set_option maxHeartbeats 0
set_option linter.unusedSimpArgs false
set_option linter.unusedVariables false
def pl57_1:Plan:=(ones [0,1,2,3,4,5,6,7,8] .fin)
def pl57:List (Nat × Plan):=[(1,pl57_1)]
theorem pl57_lk:(lkO 1 pl57 = some pl57_1):=rfl
theorem toldA_fn (w:World) (bc bm b3:Nat) (sD sT sS vb vm:Value) (x:Cst) (pb:List Bm) (hc:CoW w (fun _=>False) bc bm sD sT sS vb vm x pb) (call:Int) (h3:w.cell? ⟨b3,0,none⟩ = some (I call)) (hcal:1 ≤ x.calls ∧ x.calls ≤ 1000):
  SX.Fn Tryz.prog 57 [.pointer (some ⟨bc,0,none⟩),.pointer (some ⟨b3,0,none⟩)] w (fun _=>False) fun r N=>r = .bool (inB call 0 (x.calls - 1)):=by
 have c8:=hc.cel 8 _ rfl
 have e1:wr (x.calls - 1) = x.calls - 1:=wrap_id (by omega)
 refine walk [] pl57 (detV_ok _ _) Tryz.func57 rfl Tryz.ntmps57 res57 (by kernel_rfl) no_facts ?_
 simp (config := { maxSteps := 4000000 }) only [↓sxw,sxw,tf57,sxu,sxl,sxm,simprocAttr,pl57_lk,pl57_1]
 refine ld_olda (b:=b3) (o:=0) (by simp [add_block]) h3 id ?_
 simp (config := { maxSteps := 4000000 }) only [↓sxw,sxw,tf57,sxu,sxl,sxm,simprocAttr]
 refine ld_olda (b:=bc) (o:=8) (by simp [add_block]) c8 id ?_
 simp (config := { maxSteps := 4000000 }) only [↓sxw,sxw,tf57,sxu,sxl,sxm,simprocAttr,detV_eq,e1]
 try rfl
def pl77_1:Plan:=(ones [0,1,2,3,4,5,6,7,8] .fin)
def pl77:List (Nat × Plan):=[(1,pl77_1)]
theorem pl77_lk:(lkO 1 pl77 = some pl77_1):=rfl
theorem toldG_fn (w:World) (bc bm b3:Nat) (sD sT sS vb vm:Value) (x:Cst) (pb:List Bm) (hc:CoW w (fun _=>False) bc bm sD sT sS vb vm x pb) (call:Int) (h3:w.cell? ⟨b3,0,none⟩ = some (I call)) (hcal:1 ≤ x.calls ∧ x.calls ≤ 1000):
  SX.Fn Tryz.prog 77 [.pointer (some ⟨bc,0,none⟩),.pointer (some ⟨b3,0,none⟩)] w (fun _=>False) fun r N=>r = .bool (inB call 0 (x.calls - 1)):=by
 have c8:=hc.cel 8 _ rfl
 have e1:wr (x.calls - 1) = x.calls - 1:=wrap_id (by omega)
 refine walk [] pl77 (detV_ok _ _) Tryz.func77 rfl Tryz.ntmps77 res77 (by kernel_rfl) no_facts ?_
 simp (config := { maxSteps := 4000000 }) only [↓sxw,sxw,tf77,sxu,sxl,sxm,simprocAttr,pl77_lk,pl77_1]
 refine ld_olda (b:=b3) (o:=0) (by simp [add_block]) h3 id ?_
 simp (config := { maxSteps := 4000000 }) only [↓sxw,sxw,tf77,sxu,sxl,sxm,simprocAttr]
 refine ld_olda (b:=bc) (o:=8) (by simp [add_block]) c8 id ?_
 simp (config := { maxSteps := 4000000 }) only [↓sxw,sxw,tf77,sxu,sxl,sxm,simprocAttr,detV_eq,e1]
 try rfl
def pl95_1:Plan:=(ones [0,1,2,3,4,5,6,7,8] .fin)
def pl95:List (Nat × Plan):=[(1,pl95_1)]
theorem pl95_lk:(lkO 1 pl95 = some pl95_1):=rfl
theorem toldL_fn (w:World) (bc bm b3:Nat) (sD sT sS vb vm:Value) (x:Cst) (pb:List Bm) (hc:CoW w (fun _=>False) bc bm sD sT sS vb vm x pb) (call:Int) (h3:w.cell? ⟨b3,0,none⟩ = some (I call)) (hcal:1 ≤ x.calls ∧ x.calls ≤ 1000):
  SX.Fn Tryz.prog 95 [.pointer (some ⟨bc,0,none⟩),.pointer (some ⟨b3,0,none⟩)] w (fun _=>False) fun r N=>r = .bool (inB call 0 (x.calls - 1)):=by
 have c8:=hc.cel 8 _ rfl
 have e1:wr (x.calls - 1) = x.calls - 1:=wrap_id (by omega)
 refine walk [] pl95 (detV_ok _ _) Tryz.func95 rfl Tryz.ntmps95 res95 (by kernel_rfl) no_facts ?_
 simp (config := { maxSteps := 4000000 }) only [↓sxw,sxw,tf95,sxu,sxl,sxm,simprocAttr,pl95_lk,pl95_1]
 refine ld_olda (b:=b3) (o:=0) (by simp [add_block]) h3 id ?_
 simp (config := { maxSteps := 4000000 }) only [↓sxw,sxw,tf95,sxu,sxl,sxm,simprocAttr]
 refine ld_olda (b:=bc) (o:=8) (by simp [add_block]) c8 id ?_
 simp (config := { maxSteps := 4000000 }) only [↓sxw,sxw,tf95,sxu,sxl,sxm,simprocAttr,detV_eq,e1]
 try rfl
noncomputable def calE (x:Cst) (call:Int):Int:=if x.okB then (if inB call 0 (x.calls - 1) then 0 else 1) else 80
theorem calE_zero {x:Cst} {call:Int} (h:calE x call = 0):x.ok ∧ 0 ≤ call ∧ call ≤ x.calls - 1:=by
 unfold calE at h
 split at h
 ·rename_i h1
  split at h
  ·rename_i h2
   exact ⟨(Cst.okB_iff x).1 h1,(inB_iff _ _ _).1 h2⟩
  ·cases h
 ·cases h
def ArrP (x:Cst) (call:Int) (r:Value) (N:List HO):Prop:=(calE x call ≠ 0 ∧ r = .tuple #[.slice none 0 0,I (calE x call)]) ∨ (calE x call = 0 ∧ ∃ v,r = .tuple #[v,I 0] ∧ RwD x N (call,v))
theorem Arrivals_fn (w:World) (hw:Ways w) (v:Value) (x:Cst) (hx:CoOk w v x) (hsm:x.small) (call:Int):
  SX.Fn Tryz.prog 18 [v,I call] w (fun _=>False) (ArrP x call):=by
 obtain ⟨sD,sT,sS,vb,vm,pb,rfl,hC,h2,h3,h4,h5⟩:=hx
 have dn:∀ (g:Nat) (xs:List Value),det0 g xs = none:=fun _ _=>rfl
 have htl:=hsm.cht.2.1
 have has:=fun (b3:Nat) (H:List HO) (hm:HO.cells b3 3 [I call] ∈ H) w' (hp:Hp ⟨w,fun _=>False⟩ H w')=>ask_fn w' (hw.hp hp) sD sT sS vb vm x pb (hC.hp hp) h2 (h3.hp (fun _ _=>id) hp) (fun p hm=>(h4 p hm).hp hp) (h5.hp (fun _ _=>id) hp) hsm 57 [.pointer (some ⟨b3,0,none⟩)] Tryz.call57 (inB call 0 (x.calls - 1)) (fun hok w2 bc bm hco hk=>toldA_fn w2 bc bm b3 sD sT sS vb vm x pb hco call (by
  have h6:w'.cell? ⟨b3,0,none⟩ = some (I call):=by
   rw [cell_of_cells (hp.ok _ hm)]
   rfl
  rw [World.cell?_of_block (w:=w') (hk.block b3 (World.block_lt_of_cell? w' ⟨b3,0,none⟩ h6) id)]
  exact h6) (by have:=hok.cal; omega))
 have har:=fun (hok:x.ok) (bc bm:Nat) (B:List HO) (hm:HO.cells bc 117 (cov sD sT sS vb vm x ++ [.map (some bm)]) ∈ B) w' (hp:Hp ⟨w,fun _=>False⟩ ([mapO .i64 bm []] ++ B) w')=>arrivals_fn w' bc bm sD sT sS vb vm x pb (by have:=CoW.of hp hw hm hC h2 h3 h4 h5; rw [fpsx_map] at this; exact this) hsm hok [] (hp.ok _ (by simp)) (fun e he=>by cases he) call
 have hE:calE x call = if x.okB then (if inB call 0 (x.calls - 1) then 0 else 1) else 80:=rfl
 unfold ArrP
 obtain ⟨E,hEE⟩:∃ E,calE x call = E:=⟨_,rfl⟩
 rw [hEE] at hE ⊢
 obtain ⟨B,hB⟩:∃ B,inB call 0 (x.calls - 1) = B:=⟨_,rfl⟩
 simp only [hB] at has hE
 unfold AskP at has
 unfold cov at has har ⊢
 refine walk [3] [] (det0_ok _ _) Tryz.func18 rfl Tryz.ntmps18 res18 (by kernel_rfl) no_facts ?_
 simp (config := { maxSteps := 4000000 }) only [↓sxw,sxw,tf18,sxu,sxl,sxm,simprocAttr,dn]
 intro b3
 refine CallOb.pureH (fun w' hp=>has b3 _ (by simp) w' hp) ?_
 rintro r N (⟨ho,rfl,rfl⟩ | ⟨ho,bc,bm,rfl,rfl⟩)
 ·rw [ho,if_neg Bool.false_ne_true] at hE
  rw [hE]
  refine ⟨?_⟩
  simp (config := { maxSteps := 4000000 }) only [↓sxw,sxw,tf18,sxu,sxl,sxm,simprocAttr,dn]
  first | exact .inl ⟨by decide,rfl⟩ | exact .inl trivial | exact .inl (by decide)
 rw [ho,if_pos rfl] at hE
 have hok:=(Cst.okB_iff x).1 ho
 cases B with
 | false=>
  rw [if_neg Bool.false_ne_true] at hE
  rw [hE]
  refine ⟨?_⟩
  simp (config := { maxSteps := 4000000 }) only [↓sxw,sxw,tf18,sxu,sxl,sxm,simprocAttr,dn]
  first | exact .inl ⟨by decide,rfl⟩ | exact .inl trivial | exact .inl (by decide)
 | true=>
 rw [if_pos rfl] at hE
 rw [hE]
 refine ⟨?_⟩
 simp (config := { maxSteps := 4000000 }) only [↓sxw,sxw,tf18,sxu,sxl,sxm,simprocAttr,dn]
 refine ld_cell (T:=3) (cs:=[I call]) (by simp) rfl ?_
 simp (config := { maxSteps := 4000000 }) only [↓sxw,sxw,tf18,sxu,sxl,sxm,simprocAttr,dn]
 refine CallOb.mutH (A:=[mapO .i64 bm []]) (HImp.swap _ _ _ _) fps_map (fun w' hp=>by rw [fpsx_map]; exact har hok bc bm _ (by simp) w' hp) ?_ (Post:=TimP x bm [] fun r K'=>(call,r) ∈ K')
 rintro r N ⟨K1,D1,rfl,hK1,hr⟩
 have hrd:RwD x D1 (call,r):=(hK1 _ hr).resolve_left (by simp)
 have hrd2:=hrd
 obtain ⟨a1,c1,ps,hre,_⟩:=hrd2
 simp only [] at hre
 subst hre
 refine ⟨?_⟩
 simp (config := { maxSteps := 4000000 }) only [↓sxw,sxw,tf18,sxu,sxl,sxm,simprocAttr,dn]
 exact .inr ⟨_,rfl,hrd.mono (by simp +contextual)⟩
end Go.Proofs.YtljpknnhimkkjaaGreatDoor

namespace Go.Proofs.YtljpknnhimkkjaaGreatDoor
open Go.RowKit Go.SX
set_option maxRecDepth 10000
set_option maxHeartbeats 0
set_option linter.unusedSimpArgs false
set_option linter.unusedVariables false
noncomputable def gapM (x:Cst) (call:Int) (k:Nat):Nat → List (Int × Int)
 | 0=>[]
 | i + 1=>gapM x call k i ++ if rchB x k call (setI [(i:Int) - 1]) then [] else [((k:Int),(i:Int) - 1)]
noncomputable def gapK (x:Cst) (call:Int):Nat → List (Int × Int)
 | 0=>[]
 | k + 1=>gapK x call k ++ gapM x call k (x.bases.length + 1)
theorem gapM_len (x:Cst) (call:Int) (k:Nat):∀ i,(gapM x call k i).length ≤ i
 | 0=>Nat.le_refl _
 | i + 1=>by
  have:=gapM_len x call k i
  rw [gapM,List.length_append]
  split <;> simp <;> omega
theorem gapK_len (x:Cst) (call:Int):∀ k,(gapK x call k).length ≤ k * (x.bases.length + 1)
 | 0=>by simp [gapK]
 | k + 1=>by
  have:=gapK_len x call k
  have:=gapM_len x call k (x.bases.length + 1)
  rw [gapK,List.length_append,Nat.add_mul]
  omega
theorem tim_at {w w':World} (hw:Ways w) {B:List HO} {bc bm:Nat} {sD sT sS vb vm:Value} {x:Cst} {pb:List Bm} {K1:List (Int × Value)} (hp:Hp ⟨w,fun _=>False⟩ ([mapO .i64 bm K1] ++ B) w') (hm:HO.cells bc 117 (cov sD sT sS vb vm x ++ [.map (some bm)]) ∈ B)
  (hC:ChOk w (.agg #[I x.cht.wide,I x.cht.high,sD,sT,sS]) x.cht) (h2:pb.map Prod.fst = x.bases) (h3:Sl w vb 16 (cat bac pb)) (h4:∀ p ∈ pb,BsOk w p) (h5:Sl w vm 2 (cat spc x.marks)) (hK:∀ e ∈ K1,RwD x B e):CoW w' (fun b=>b = bm) bc bm sD sT sS vb vm x pb ∧ HO.ok w' (mapO .i64 bm K1) ∧ KOk w' (fun b=>b = bm) x K1:=by
 have h6:=CoW.of hp hw hm hC h2 h3 h4 h5
 rw [fpsx_map] at h6
 refine ⟨h6,hp.ok _ (by simp),fun e he=>?_⟩
 have:=(hK e he).ll hp
 rwa [fpsx_map] at this
theorem set1_lt {i:Nat} (h:i ≤ 5):setI [(i:Int) - 1] < 32 ∧ ∀ n ∈ [(i:Int) - 1],-1 ≤ n ∧ n < 5:=by
 refine ⟨?_,fun n hn=>by rw [List.mem_singleton.1 hn]; omega⟩
 have:=setI_lt [(i:Int) - 1] (fun n hn=>by rw [List.mem_singleton.1 hn]; omega) 1
 simpa using this
def GapP (x:Cst) (call:Int) (r:Value) (N:List HO):Prop:=(calE x call ≠ 0 ∧ r = .tuple #[.slice none 0 0,I (calE x call)]) ∨ (calE x call = 0 ∧ ∃ v,r = .tuple #[v,I 0] ∧ Got v 92 2 spc (gapK x call x.marks.length) N)
def pl26_11:Plan:=(ones [0,1,2,3,4,5] (.mu 6 (ones [7] .fin)))
def pl26:List (Nat × Plan):=[(11,pl26_11)]
theorem pl26_lk:(lkO 11 pl26 = some pl26_11):=rfl
theorem Gaps_fn (w:World) (hw:Ways w) (v:Value) (x:Cst) (hx:CoOk w v x) (hsm:x.small) (call:Int):
  SX.Fn Tryz.prog 26 [v,I call] w (fun _=>False) (GapP x call):=by
 obtain ⟨sD,sT,sS,vb,vm,pb,rfl,hC,h2,h3,h4,h5⟩:=hx
 have dn:∀ (g:Nat) (xs:List Value),det0 g xs = none:=fun _ _=>rfl
 have htl:=hsm.cht.2.1
 have hml:=hsm.nm
 have hpl:pb.length = x.bases.length:=by rw [← h2,List.length_map]
 have has:=fun (b3:Nat) (H:List HO) (hm:HO.cells b3 3 [I call] ∈ H) w' (hp:Hp ⟨w,fun _=>False⟩ H w')=>ask_fn w' (hw.hp hp) sD sT sS vb vm x pb (hC.hp hp) h2 (h3.hp (fun _ _=>id) hp) (fun p hm=>(h4 p hm).hp hp) (h5.hp (fun _ _=>id) hp) hsm 77 [.pointer (some ⟨b3,0,none⟩)] Tryz.call77 (inB call 0 (x.calls - 1)) (fun hok w2 bc bm hco hk=>toldG_fn w2 bc bm b3 sD sT sS vb vm x pb hco call (by
  have h6:w'.cell? ⟨b3,0,none⟩ = some (I call):=by
   rw [cell_of_cells (hp.ok _ hm)]
   rfl
  rw [World.cell?_of_block (w:=w') (hk.block b3 (World.block_lt_of_cell? w' ⟨b3,0,none⟩ h6) id)]
  exact h6) (by have:=hok.cal; omega))
 have hrc:=fun (hok:x.ok) (hc:0 ≤ call ∧ call ≤ 100) (bc bm:Nat) (k i:Nat) (hk:k < x.marks.length) (hi:i ≤ 5) (K1:List (Int × Value)) (B:List HO) (hm:HO.cells bc 117 (cov sD sT sS vb vm x ++ [.map (some bm)]) ∈ B) (hK:∀ e ∈ K1,RwD x B e) w' (hp:Hp ⟨w,fun _=>False⟩ ([mapO .i64 bm K1] ++ B) w')=>by
  obtain ⟨q1,q2,q3⟩:=tim_at hw hp hm hC h2 h3 h4 h5 hK
  exact reached_fn w' bc bm sD sT sS vb vm x pb q1 hsm hok K1 q2 q3 k hk call hc (setI [(i:Int) - 1]) (set1_lt hi).1
 have hE:calE x call = if x.okB then (if inB call 0 (x.calls - 1) then 0 else 1) else 80:=rfl
 unfold GapP
 obtain ⟨E,hEE⟩:∃ E,calE x call = E:=⟨_,rfl⟩
 have hEz:=fun h:E = 0=>calE_zero (hEE.trans h)
 rw [hEE] at hE ⊢
 obtain ⟨B,hB⟩:∃ B,inB call 0 (x.calls - 1) = B:=⟨_,rfl⟩
 simp only [hB] at has hE
 obtain ⟨aM,nM,cM,rfl⟩:=h5.shape
 have hnM:=h5.le spc_len (by omega)
 subst hnM
 obtain ⟨aB,nB,cB,rfl⟩:=h3.shape
 have hnB:=h3.le bac_len (by omega)
 subst hnB
 unfold AskP at has
 unfold cov at has hrc ⊢
 refine walk [3] pl26 (det0_ok _ _) Tryz.func26 rfl Tryz.ntmps26 res26 (by kernel_rfl) no_facts ?_
 simp (config := { maxSteps := 4000000 }) only [↓sxw,sxw,tf26,sxu,sxl,sxm,simprocAttr,dn]
 intro b3
 refine CallOb.pureH (fun w' hp=>has b3 _ (by simp) w' hp) ?_
 rintro r N (⟨ho,rfl,rfl⟩ | ⟨ho,bc,bm,rfl,rfl⟩)
 ·rw [ho,if_neg Bool.false_ne_true] at hE
  rw [hE]
  refine ⟨?_⟩
  simp (config := { maxSteps := 4000000 }) only [↓sxw,sxw,tf26,sxu,sxl,sxm,simprocAttr,dn]
  first | exact .inl ⟨by decide,rfl⟩ | exact .inl trivial | exact .inl (by decide)
 rw [ho,if_pos rfl] at hE
 have hok:=(Cst.okB_iff x).1 ho
 cases B with
 | false=>
  rw [if_neg Bool.false_ne_true] at hE
  rw [hE]
  refine ⟨?_⟩
  simp (config := { maxSteps := 4000000 }) only [↓sxw,sxw,tf26,sxu,sxl,sxm,simprocAttr,dn]
  first | exact .inl ⟨by decide,rfl⟩ | exact .inl trivial | exact .inl (by decide)
 | true=>
 rw [if_pos rfl] at hE
 have hcz:=hEz hE
 have hcal:=hok.cal
 have hnb:=hok.nb
 rw [hE]
 have hrc:=fun bc bm k i hk hi K1 B hm hK w' hp=>hrc hok (by omega) bc bm k i hk hi K1 B hm hK w' hp
 refine ⟨?_⟩
 simp (config := { maxSteps := 4000000 }) only [↓sxw,sxw,tf26,sxu,sxl,sxm,simprocAttr,dn]
 refine ld_cella (T:=117) (List.mem_cons_self) rfl ?_
 simp (config := { maxSteps := 4000000 }) only [↓sxw,sxw,tf26,sxu,sxl,sxm,simprocAttr,dn]
 obtain ⟨CC,hCC⟩:∃ C,HO.cells bc 117 [I x.cht.wide,I x.cht.high,sD,sT,sS,.slice aB pb.length cB,.slice aM x.marks.length cM,I x.length,I x.calls,.map (some bm)] = C:=⟨_,rfl⟩
 obtain ⟨C3,hC3⟩:∃ C,HO.cells b3 3 [I call] = C:=⟨_,rfl⟩
 obtain ⟨RO,hRO⟩:∃ RO:Option Addr → Nat → List (Int × Int) → HO,∀ a c l,RO a c l = HO.row (.slice a l.length c) 92 2 (cat spc l):=⟨_,fun _ _ _=>rfl⟩
 refine loop_constH (RO none 0 [] :: mapO .i64 bm [] :: ([] ++ [CC,C3])) (by rw [hRO,← hCC,← hC3]; exact (HImp.swap _ _ _ _).trans (HImp.nilRow _ _ _ _)) [(8,10),(26,53)] (fun q:Nat × Option Addr × Nat=>[(8,.slice q.2.1 (gapK x call q.1).length q.2.2),(26,I q.1)])
  (fun q H1=>q.1 ≤ x.marks.length ∧ (q.2.1 = none → gapK x call q.1 = []) ∧ ∃ K1 D1,H1 = RO q.2.1 q.2.2 (gapK x call q.1) :: mapO .i64 bm K1 :: (D1 ++ [CC,C3]) ∧ ∀ e ∈ K1,RwD x D1 e) (fun q=>x.marks.length - q.1) (0,none,0) ?_ ⟨Nat.zero_le _,fun _=>rfl,[],[],rfl,fun e he=>(by cases he)⟩ ?_
 ·simp (config := { maxSteps := 4000000 }) only [↓sxw,sxw,tf26,sxu,sxl,sxm,simprocAttr]
  first | exact ⟨rfl,rfl⟩ | (simp [gapK]; done) | rfl
 rintro ⟨k,ao,co⟩ H1 g1 hinv
 simp only [] at hinv
 obtain ⟨hk,hao,K1,D1,rfl,hK1⟩:=hinv
 have hgl:=gapK_len x call k
 by_cases hkn:k = x.marks.length
 ·have e7:((k:Int) < (x.marks.length:Int)) = False:=eq_false (by omega)
  rw [← hkn]
  rw [← hkn] at e7
  refine ⟨?_⟩
  simp (config := { maxSteps := 4000000 }) only [↓sxw,sxw,tf26,sxu,sxl,sxm,simprocAttr,e7,dn]
  exact .inr ⟨_,rfl,ao,co,rfl,hao,.inr (by rw [← hRO]; exact List.mem_cons_self)⟩
 have e7:((k:Int) < (x.marks.length:Int)) = True:=eq_true (by omega)
 have e8:wr (k + 1) = ((k + 1:Nat):Int):=(wrap_id (by omega)).trans (by omega)
 have hkl:k < x.marks.length:=by omega
 have hgl2:(gapK x call k).length ≤ 600:=by
  have:k * (x.bases.length + 1) ≤ 30 * 6:=Nat.mul_le_mul (by omega) (by omega)
  omega
 refine ⟨?_⟩
 simp (config := { maxSteps := 4000000 }) only [↓sxw,sxw,tf26,sxu,sxl,sxm,simprocAttr,e7,dn]
 refine loop_constH _ (HImp.refl _ _) [(8,8),(10,10),(29,52)] (fun q:Nat × Option Addr × Nat=>[(8,.slice q.2.1 (gapK x call k ++ gapM x call k q.1).length q.2.2),(10,I ((q.1:Int) - 1))])
  (fun q H1=>q.1 ≤ pb.length + 1 ∧ (q.2.1 = none → gapK x call k ++ gapM x call k q.1 = []) ∧ ∃ K1 D1,H1 = RO q.2.1 q.2.2 (gapK x call k ++ gapM x call k q.1) :: mapO .i64 bm K1 :: (D1 ++ [CC,C3]) ∧ ∀ e ∈ K1,RwD x D1 e) (fun q=>pb.length + 1 - q.1) (0,ao,co) ?_ ⟨Nat.zero_le _,by rw [gapM,List.append_nil]; exact hao,K1,D1,by rw [gapM,List.append_nil],hK1⟩ ?_
 ·simp (config := { maxSteps := 4000000 }) only [↓sxw,sxw,tf26,sxu,sxl,sxm,simprocAttr]
  first | exact ⟨by rw [gapM,List.append_nil],rfl⟩ | (simp [gapM]; done)
 rintro ⟨i,a2,c2⟩ H1 g2 hinv2
 simp only [] at hinv2
 obtain ⟨hi,ha2,K2,D2,rfl,hK2⟩:=hinv2
 have hml2:=gapM_len x call k i
 have hCCm:HO.cells bc 117 [I x.cht.wide,I x.cht.high,sD,sT,sS,.slice aB pb.length cB,.slice aM x.marks.length cM,I x.length,I x.calls,.map (some bm)] ∈ RO a2 c2 (gapK x call k ++ gapM x call k i) :: mapO .i64 bm K2 :: (D2 ++ [CC,C3]):=by rw [hCC]; simp
 have hC3m:HO.cells b3 3 [I call] ∈ RO a2 c2 (gapK x call k ++ gapM x call k i) :: mapO .i64 bm K2 :: (D2 ++ [CC,C3]):=by rw [hC3]; simp
 by_cases hin:i = pb.length + 1
 ·have f7:((i:Int) - 1 < (pb.length:Int)) = False:=eq_false (by omega)
  have hgk:gapK x call k ++ gapM x call k i = gapK x call (k + 1):=by rw [gapK,hin,hpl]
  rw [hgk] at ha2 hCCm ⊢
  refine ⟨?_⟩
  simp (config := { maxSteps := 4000000 }) only [↓sxw,sxw,tf26,sxu,sxl,sxm,simprocAttr,dn]
  refine ld_cella (T:=117) hCCm rfl ?_
  simp (config := { maxSteps := 4000000 }) only [↓sxw,sxw,tf26,sxu,sxl,sxm,simprocAttr,f7,e8,dn]
  exact ⟨(k + 1,a2,c2),_,by first | exact ⟨rfl,rfl⟩ | rfl,HImp.refl _ _,⟨by simp only []; omega,ha2,K2,D2,rfl,hK2⟩,by simp only []; omega⟩
 have f7:((i:Int) - 1 < (pb.length:Int)) = True:=eq_true (by omega)
 have f8:wr ((i:Int) - 1 + 1) = ((i + 1:Nat):Int) - 1:=(wrap_id (by omega)).trans (by omega)
 have hst:=set1_lt (i:=i) (by omega)
 obtain ⟨RB,hRB⟩:∃ b,rchB x k call (setI [(i:Int) - 1]) = b:=⟨_,rfl⟩
 have hgs:gapK x call k ++ gapM x call k (i + 1) = (gapK x call k ++ gapM x call k i) ++ if RB then [] else [((k:Int),(i:Int) - 1)]:=by rw [gapM,hRB,List.append_assoc]
 have hrk:=hrc bc bm k i hkl (by omega) K2
 simp only [hRB] at hrk
 refine ⟨?_⟩
 simp (config := { maxSteps := 4000000 }) only [↓sxw,sxw,tf26,sxu,sxl,sxm,simprocAttr,dn]
 refine ld_cella (T:=117) hCCm rfl ?_
 simp (config := { maxSteps := 4000000 }) only [↓sxw,sxw,tf26,sxu,sxl,sxm,simprocAttr,f7,dn,pl26_lk,pl26_11]
 refine ld_cell (T:=3) (cs:=[I call]) hC3m rfl ?_
 simp (config := { maxSteps := 4000000 }) only [↓sxw,sxw,tf26,sxu,sxl,sxm,simprocAttr,dn]
 intro b4
 refine CallOb.pureH (fun w' hp=>fset_fn w' _ [(i:Int) - 1] (row_hp (E:=3) (xs:=ints [(i:Int) - 1]) (by simp [cat,i1]) hp) (by simp) hst.2) ?_
 rintro r N rfl
 refine ⟨?_⟩
 simp (config := { maxSteps := 4000000 }) only [↓sxw,sxw,tf26,sxu,sxl,sxm,simprocAttr,dn]
 refine CallOb.mutH (A:=[mapO .i64 bm K2]) (B:=RO a2 c2 (gapK x call k ++ gapM x call k i) :: (D2 ++ [CC,C3])) ((HImp.app _ _ _).trans ((HImp.tail _ _ _).trans (HImp.swap _ _ _ _))) fps_map (fun w' hp=>by rw [fpsx_map]; exact hrk _ (by rw [← hCC]; simp) (fun e he=>(hK2 e he).mono (by simp +contextual)) w' hp) ?_ (Post:=TimP x bm K2 fun r _=>r = .bool RB)
 rintro r N2 ⟨K3,D3,rfl,hK3,rfl⟩
 have hK4:∀ e ∈ K3,RwD x (D3 ++ D2) e:=fun e he=>by
  rcases hK3 e he with h | h
  ·exact (hK2 e h).mono fun g hg=>List.mem_append_right _ hg
  ·exact h.mono fun g hg=>List.mem_append_left _ hg
 have hperm:∀ (R:HO),(mapO .i64 bm K3 :: (D3 ++ R :: (D2 ++ [CC,C3]))).Perm (R :: mapO .i64 bm K3 :: ((D3 ++ D2) ++ [CC,C3])):=fun R=>by
  rw [List.append_assoc]
  exact (List.Perm.cons _ List.perm_middle).trans (List.Perm.swap _ _ _)
 cases RB with
 | true=>
  rw [if_pos rfl,List.append_nil] at hgs
  refine ⟨?_⟩
  simp (config := { maxSteps := 4000000 }) only [↓sxw,sxw,tf26,sxu,sxl,sxm,simprocAttr,f8,dn]
  exact ⟨(i + 1,a2,c2),_,by first | exact ⟨by rw [hgs],rfl⟩ | (rw [hgs]; done),HImp.perm (hperm _),⟨by simp only []; omega,by rw [hgs]; exact ha2,K3,D3 ++ D2,by rw [hgs],hK4⟩,by simp only []; omega⟩
 | false=>
  rw [if_neg Bool.false_ne_true] at hgs
  refine ⟨?_⟩
  simp (config := { maxSteps := 4000000 }) only [↓sxw,sxw,tf26,sxu,sxl,sxm,simprocAttr,dn]
  intro b5
  refine app_one (f:=spc) (l:=gapK x call k ++ gapM x call k i) (((k:Int),(i:Int) - 1):Int × Int) (A:=mapO .i64 bm K3 :: ((D3 ++ D2) ++ [CC,C3])) (by rw [← hRO]; first | exact HImp.perm (hperm _) | (simp only [List.cons_append]; exact HImp.perm (hperm _))) spc_len spc_one (by rw [List.length_append]; omega) fun ad5 c5=>?_
  simp (config := { maxSteps := 4000000 }) only [↓sxw,sxw,tf26,sxu,sxl,sxm,simprocAttr,f8,dn]
  refine ⟨(i + 1,some ad5,c5),_,by first | exact ⟨by rw [hgs,List.length_append]; rfl,rfl⟩ | (rw [hgs]; simp only [List.length_append,List.length_singleton,List.length_cons,List.length_nil]; done) | (rw [hgs]; simp only [List.length_append,List.length_singleton,Nat.add_assoc]; done) | (rw [hgs]; simp [Nat.add_assoc]; done),HImp.refl _ _,⟨by simp only []; omega,fun h=>(by cases h),K3,D3 ++ D2,?_,hK4⟩,by simp only []; omega⟩
  simp only []
  rw [hgs,hRO]
  simp only [List.length_append,List.length_singleton]
end Go.Proofs.YtljpknnhimkkjaaGreatDoor

namespace Go.Proofs.YtljpknnhimkkjaaGreatDoor
open Go.RowKit Go.SX
set_option maxRecDepth 10000
set_option maxHeartbeats 0
set_option linter.unusedSimpArgs false
set_option linter.unusedVariables false
def basB (n:Int):Int → List Int → Bool
 | _,[]=>true
 | last,y :: l=>inB y (last + 1) (n - 1) && basB n y l
theorem basB_mem {n:Int}:∀ {l:List Int} {last:Int},basB n last l = true → ∀ y ∈ l,last + 1 ≤ y ∧ y ≤ n - 1
 | [],_,_,y,hy=>by cases hy
 | z :: l,last,h,y,hy=>by
  rw [basB,Bool.and_eq_true,inB_iff] at h
  rcases List.mem_cons.1 hy with rfl | hy
  ·omega
  ·have:=basB_mem h.2 y hy
   omega
def pl82_1:Plan:=(ones [0,1,2,3,4,5,6,7,8,9,10,11] .fin)
def pl82:List (Nat × Plan):=[(1,pl82_1)]
theorem pl82_lk:(lkO 1 pl82 = some pl82_1):=rfl
theorem told82_fn (w:World) (bc bm b2 b4:Nat) (sD sT sS vb vm:Value) (x:Cst) (pb:List Bm) (hc:CoW w (fun b=>b = b4) bc bm sD sT sS vb vm x pb) (hnb:x.bases.length ≤ 5) (h2:w.cell? ⟨b2,0,none⟩ = some (.pointer (some ⟨bc,0,none⟩))) (hne:b2 ≠ b4) (last y:Int) (hl:-1 ≤ last ∧ last ≤ 5) (hok:HO.ok w (HO.cells b4 3 [I last])):
  SX.Fn Tryz.prog 82 [I y,.pointer (some ⟨b4,0,none⟩),.pointer (some ⟨b2,0,none⟩)] w (fun b=>b = b4) fun r N=>r = .bool (inB y (last + 1) ((x.bases.length:Int) - 1)) ∧ N = [HO.cells b4 3 [I y]]:=by
 have nc:¬ (bc = b4):=hc.nc
 have c5:=hc.cel 5 _ rfl
 have hpl:pb.length = x.bases.length:=by rw [← hc.fst,List.length_map]
 obtain ⟨aB,nB,cB,rfl⟩:=hc.bas.1.shape
 have hnB:=hc.bas.1.le bac_len (by omega)
 subst hnB
 rw [← hpl]
 have e1:wr (last + 1) = last + 1:=wrap_id (by omega)
 have e2:wr ((pb.length:Int) - 1) = (pb.length:Int) - 1:=wrap_id (by omega)
 refine walk [] pl82 (detV_ok _ _) Tryz.func82 rfl Tryz.ntmps82 res82 (by kernel_rfl) (H0:=[HO.cells b4 3 [I last]]) ⟨fun g hg=>by rw [List.mem_singleton] at hg; subst hg; exact hok,fun g hg b hb=>by rw [List.mem_singleton] at hg; subst hg; exact hb,List.pairwise_singleton _ _⟩ ?_
 simp (config := { maxSteps := 4000000 }) only [↓sxw,sxw,tf82,sxu,sxl,sxm,simprocAttr,pl82_lk,pl82_1]
 refine ld_cell List.mem_cons_self rfl ?_
 simp (config := { maxSteps := 4000000 }) only [↓sxw,sxw,tf82,sxu,sxl,sxm,simprocAttr,e1]
 refine ld_olda (b:=b2) (o:=0) (by simp [add_block]) h2 hne ?_
 simp (config := { maxSteps := 4000000 }) only [↓sxw,sxw,tf82,sxu,sxl,sxm,simprocAttr]
 refine ld_olda (b:=bc) (o:=5) (by simp [add_block]) c5 nc ?_
 simp (config := { maxSteps := 4000000 }) only [↓sxw,sxw,tf82,sxu,sxl,sxm,simprocAttr,detV_eq,e2]
 refine wr_cell (A:=[]) rfl (by simp) ?_
 simp (config := { maxSteps := 4000000 }) only [↓sxw,sxw,tf82,sxu,sxl,sxm,simprocAttr]
 try rfl
theorem allI_fn (w:World) (bc bm b2 b4:Nat) (sD sT sS vb vm:Value) (x:Cst) (pb:List Bm) (hc:CoW w (fun b=>b = b4) bc bm sD sT sS vb vm x pb) (hnb:x.bases.length ≤ 5) (h2:w.cell? ⟨b2,0,none⟩ = some (.pointer (some ⟨bc,0,none⟩))) (hne:b2 ≠ b4) (hok:HO.ok w (HO.cells b4 3 [I (-1)])) (v:Value) (l:List Int) (hv:SlX w (fun b=>b = b4) v 1 (ints l)) (hl:l.length ≤ 1000):
  SX.Fn Tryz.prog 81 [v,.func (.func 82) #[] #[.pointer (some ⟨b4,0,none⟩),.pointer (some ⟨b2,0,none⟩)]] w (fun b=>b = b4) fun r N=>r = .bool (basB (x.bases.length:Int) (-1) l):=by
 have dn:∀ (g:Nat) (xs:List Value),det0 g xs = none:=fun _ _=>rfl
 have hfp:∀ last:Int,fpsx [HO.cells b4 3 [I last]] = fun b=>b = b4:=fun last=>by
  funext b
  apply propext
  constructor
  ·rintro ⟨h,hh,hb⟩
   rw [List.mem_singleton] at hh
   subst hh
   exact hb
  ·rintro rfl
   exact ⟨_,List.mem_singleton.2 rfl,rfl⟩
 have hfs:∀ (last:Int) b,fps [HO.cells b4 3 [I last]] b → fpsx [HO.cells b4 3 [I last]] b:=fun last b ⟨h,hh,hb⟩=>⟨h,hh,by
  rw [List.mem_singleton] at hh
  subst hh
  exact hb⟩
 have hto:=fun (last y:Int) (hla:-1 ≤ last ∧ last ≤ 5) w' (hp:Hp ⟨w,fun b=>b = b4⟩ ([HO.cells b4 3 [I last]] ++ []) w')=>told82_fn w' bc bm b2 b4 sD sT sS vb vm x pb (hc.keep hp.ext) hnb (by
  rw [World.cell?_of_block (w:=w) (hp.ext.block b2 (World.block_lt_of_cell? w ⟨b2,0,none⟩ h2) hne)]
  exact h2) hne last y hla (hp.ok _ (by simp))
 have hr:=hv.rdv
 obtain ⟨a,n,c,rfl⟩:=hv.1.shape
 have hn:=hv.1.le i1_len (by omega)
 subst hn
 refine walk [] [] (det0_ok _ _) Tryz.func81 rfl Tryz.ntmps81 res81 (by kernel_rfl) (H0:=[HO.cells b4 3 [I (-1)]]) ⟨fun g hg=>by rw [List.mem_singleton] at hg; subst hg; exact hok,fun g hg b hb=>by rw [List.mem_singleton] at hg; subst hg; exact hb,List.pairwise_singleton _ _⟩ ?_
 simp (config := { maxSteps := 4000000 }) only [↓sxw,sxw,tf81,sxu,sxl,sxm,simprocAttr,dn]
 refine loop_constH [HO.cells b4 3 [I (-1)]] (HImp.refl _ _) [(4,4),(6,6),(9,17)] (fun q:Nat × Int=>[(9,I q.1)]) (fun q H1=>q.1 ≤ l.length ∧ (-1 ≤ q.2 ∧ q.2 ≤ 5) ∧ H1 = [HO.cells b4 3 [I q.2]] ∧ basB (x.bases.length:Int) (-1) l = basB (x.bases.length:Int) q.2 (l.drop q.1)) (fun q=>l.length - q.1) (0,-1) ?_ ⟨Nat.zero_le _,by simp,rfl,rfl⟩ ?_
 ·simp (config := { maxSteps := 4000000 }) only [↓sxw,sxw,tf81,sxu,sxl,sxm,simprocAttr]
  try simp
 rintro ⟨i,last⟩ H1 g1 hinv0
 simp only [] at hinv0
 obtain ⟨hi,hla,rfl,hinv⟩:=hinv0
 by_cases hin:i = l.length
 ·have e7:((i:Int) < (l.length:Int)) = False:=eq_false (by omega)
  rw [List.drop_of_length_le (by omega),basB] at hinv
  rw [hinv]
  refine ⟨?_⟩
  simp (config := { maxSteps := 4000000 }) only [↓sxw,sxw,tf81,sxu,sxl,sxm,simprocAttr,e7,dn]
  try rfl
 have e7:((i:Int) < (l.length:Int)) = True:=eq_true (by omega)
 have e8:wr (i + 1) = ((i + 1:Nat):Int):=(wrap_id (by omega)).trans (by omega)
 have hil:i < l.length:=by omega
 have hu:=List.getElem?_eq_getElem hil
 rw [List.drop_eq_getElem_cons hil,basB] at hinv
 generalize l[i] = y at hu hinv
 have hty:=hto last y hla
 obtain ⟨B,hB⟩:∃ B,inB y (last + 1) ((x.bases.length:Int) - 1) = B:=⟨_,rfl⟩
 rw [hB] at hinv
 simp only [hB] at hty
 refine ⟨?_⟩
 simp (config := { maxSteps := 4000000 }) only [↓sxw,sxw,tf81,sxu,sxl,sxm,simprocAttr,e7,dn]
 refine amid (at_1 (hr _) i1_len hu rfl fun ad=>?_)
 simp (config := { maxSteps := 4000000 }) only [↓sxw,sxw,tf81,sxu,sxl,sxm,simprocAttr,dn]
 refine ⟨Tryz.call82,?_⟩
 refine CallOb.mutH (A:=[HO.cells b4 3 [I last]]) (B:=[]) (HImp.refl _ _) (hfs last) (fun w' hp=>by rw [hfp]; exact hty w' hp) ?_ (Post:=fun r N=>r = .bool B ∧ N = [HO.cells b4 3 [I y]])
 rintro r N ⟨rfl,rfl⟩
 cases B with
 | false=>
  rw [Bool.false_and] at hinv
  rw [hinv]
  refine ⟨?_⟩
  simp (config := { maxSteps := 4000000 }) only [↓sxw,sxw,tf81,sxu,sxl,sxm,simprocAttr,dn]
  try rfl
 | true=>
  rw [Bool.true_and] at hinv
  have hb2:=(inB_iff _ _ _).1 hB
  refine ⟨?_⟩
  simp (config := { maxSteps := 4000000 }) only [↓sxw,sxw,tf81,sxu,sxl,sxm,simprocAttr,e8,dn]
  exact ⟨(i + 1,y),_,rfl,HImp.refl _ _,⟨by simp only []; omega,by simp only []; omega,rfl,hinv⟩,by simp only []; omega⟩
end Go.Proofs.YtljpknnhimkkjaaGreatDoor

namespace Go.Proofs.YtljpknnhimkkjaaGreatDoor
open Go.RowKit Go.SX
set_option maxRecDepth 10000
set_option maxHeartbeats 0
set_option linter.unusedSimpArgs false
set_option linter.unusedVariables false
theorem Keep.new {X:Nat → Prop} {w w':World} (h:Keep X w w') (hX:∀ b,b < w.heap.size → ¬ X b):Keep (fun _=>False) w w':=⟨h.os,h.tape,h.output,h.size,fun k hk _=>h.block k hk (hX k hk)⟩
theorem CoW.newX {w w':World} {A B:List HO} {bc bm:Nat} {sD sT sS vb vm:Value} {x:Cst} {pb:List Bm} (hc:CoW w (fun _=>False) bc bm sD sT sS vb vm x pb) (hp:Hp ⟨w,fun _=>False⟩ (A ++ B) w'):CoW w' (fpsx A) bc bm sD sT sS vb vm x pb:=by
 have h1:=hc.keep hp.ext
 have hbc:bc < w.heap.size:=World.block_lt_of_cell? w ⟨bc,0,none⟩ (hc.cel 0 _ rfl)
 refine ⟨new_fpsx hp hbc,h1.cel,hc.fst,slx_old hc.bas.1 hp,slx_old hc.mar.1 hp,fun w2 hk=>hc.all w2 (Keep.new (hp.ext.trans hk) fun b hb h=>new_fpsx hp hb (h.resolve_left id))⟩
theorem told80_fn (w:World) (bc bm b3:Nat) (sD sT sS vb vm:Value) (x:Cst) (pb:List Bm) (hc:CoW w (fun _=>False) bc bm sD sT sS vb vm x pb) (hnb:x.bases.length ≤ 5) (v:Value) (l:List Int) (h3:w.cell? ⟨b3,0,none⟩ = some v) (hv:Sl w v 1 (ints l)) (hl:l.length ≤ 1000):
  SX.Fn Tryz.prog 80 [.pointer (some ⟨bc,0,none⟩),.pointer (some ⟨b3,0,none⟩)] w (fun _=>False) fun r N=>r = .bool (basB (x.bases.length:Int) (-1) l):=by
 have dn:∀ (g:Nat) (xs:List Value),det0 g xs = none:=fun _ _=>rfl
 have hfp:∀ (b4:Nat) (last:Int),fpsx [HO.cells b4 3 [I last]] = fun b=>b = b4:=fun b4 last=>by
  funext b
  apply propext
  constructor
  ·rintro ⟨h,hh,hb⟩
   rw [List.mem_singleton] at hh
   subst hh
   exact hb
  ·rintro rfl
   exact ⟨_,List.mem_singleton.2 rfl,rfl⟩
 have hfs:∀ (b4:Nat) (last:Int) b,fps [HO.cells b4 3 [I last]] b → fpsx [HO.cells b4 3 [I last]] b:=fun b4 last b ⟨h,hh,hb⟩=>⟨h,hh,by
  rw [List.mem_singleton] at hh
  subst hh
  exact hb⟩
 have hal:=fun (b2 b4:Nat) w' (hp:Hp ⟨w,fun _=>False⟩ ([HO.cells b4 3 [I (-1)]] ++ [HO.cells b2 112 [.pointer (some ⟨bc,0,none⟩)]]) w')=>by
  have q1:=CoW.newX hc hp
  have q2:=slx_old hv hp
  rw [hfp] at q1 q2
  have q3:=not_fpsx hp (g:=HO.cells b2 112 [.pointer (some ⟨bc,0,none⟩)]) (by simp) (b:=b2) rfl
  rw [hfp] at q3
  exact allI_fn w' bc bm b2 b4 sD sT sS vb vm x pb q1 hnb (by rw [cell_of_cells (hp.ok (HO.cells b2 112 [.pointer (some ⟨bc,0,none⟩)]) (by simp))]; rfl) q3 (hp.ok _ (by simp)) v l q2 hl
 obtain ⟨a,n,c,rfl⟩:=hv.shape
 refine walk [2,4] [] (det0_ok _ _) Tryz.func80 rfl Tryz.ntmps80 res80 (by kernel_rfl) no_facts ?_
 simp (config := { maxSteps := 4000000 }) only [↓sxw,sxw,tf80,sxu,sxl,sxm,simprocAttr,dn]
 intro b2 b4
 refine wr_cell (A:=[]) rfl (by simp) ?_
 simp (config := { maxSteps := 4000000 }) only [↓sxw,sxw,tf80,sxu,sxl,sxm,simprocAttr,dn]
 refine ld_olda (b:=b3) (o:=0) (by simp [add_block]) h3 id ?_
 simp (config := { maxSteps := 4000000 }) only [↓sxw,sxw,tf80,sxu,sxl,sxm,simprocAttr,dn]
 refine CallOb.mutH (A:=[HO.cells b4 3 [I (-1)]]) (B:=[HO.cells b2 112 [.pointer (some ⟨bc,0,none⟩)]]) (HImp.refl _ _) (hfs b4 (-1)) (fun w' hp=>by rw [hfp]; exact hal b2 b4 w' hp) ?_ (Post:=fun r N=>r = .bool (basB (x.bases.length:Int) (-1) l))
 rintro r N rfl
 refine ⟨?_⟩
 simp (config := { maxSteps := 4000000 }) only [↓sxw,sxw,tf80,sxu,sxl,sxm,simprocAttr,dn]
 try rfl
noncomputable def covE (x:Cst) (l:List Int):Int:=if x.okB then (if basB (x.bases.length:Int) (-1) l then 0 else 1) else 80
def CvdP (x:Cst) (l:List Int) (r:Value):Prop:=(covE x l ≠ 0 ∧ r = .tuple #[.bool false,I (covE x l)]) ∨ (covE x l = 0 ∧ r = .tuple #[.bool (alwB x (setI l)),I 0])
theorem Covered_fn (w:World) (hw:Ways w) (v:Value) (x:Cst) (hx:CoOk w v x) (hsm:x.small) (vl:Value) (l:List Int) (hl:Sl w vl 1 (ints l)) (hll:l.length ≤ 1000):
  SX.Fn Tryz.prog 30 [v,vl] w (fun _=>False) fun r N=>CvdP x l r:=by
 obtain ⟨sD,sT,sS,vb,vm,pb,rfl,hC,h2,h3,h4,h5⟩:=hx
 have dn:∀ (g:Nat) (xs:List Value),det0 g xs = none:=fun _ _=>rfl
 have has:=fun (b3:Nat) (H:List HO) (hm:HO.cells b3 22 [vl] ∈ H) w' (hp:Hp ⟨w,fun _=>False⟩ H w')=>ask_fn w' (hw.hp hp) sD sT sS vb vm x pb (hC.hp hp) h2 (h3.hp (fun _ _=>id) hp) (fun p hm=>(h4 p hm).hp hp) (h5.hp (fun _ _=>id) hp) hsm 80 [.pointer (some ⟨b3,0,none⟩)] Tryz.call80 (basB (x.bases.length:Int) (-1) l) (fun hok w2 bc bm hco hk=>told80_fn w2 bc bm b3 sD sT sS vb vm x pb hco hok.nb.2 vl l (by
  have h6:w'.cell? ⟨b3,0,none⟩ = some vl:=by
   rw [cell_of_cells (hp.ok _ hm)]
   rfl
  rw [World.cell?_of_block (w:=w') (hk.block b3 (World.block_lt_of_cell? w' ⟨b3,0,none⟩ h6) id)]
  exact h6) (Sl.keep (Sl.hp (w0:=⟨w,fun _=>False⟩) hl (fun _ _=>id) hp) hk fun _ _=>id) hll)
 have hse:=fun (hb:∀ n ∈ l,-1 ≤ n ∧ n < 5) (H:List HO) w' (hp:Hp ⟨w,fun _=>False⟩ H w')=>fset_fn w' vl l (Sl.hp (w0:=⟨w,fun _=>False⟩) hl (fun _ _=>id) hp) hll hb
 have hal:=fun (hok:x.ok) (hs:setI l < 32) (bc bm:Nat) (B:List HO) (hm:HO.cells bc 117 (cov sD sT sS vb vm x ++ [.map (some bm)]) ∈ B) w' (hp:Hp ⟨w,fun _=>False⟩ ([mapO .i64 bm []] ++ B) w')=>by
  obtain ⟨q1,q2,q3⟩:=tim_at hw hp hm hC h2 h3 h4 h5 (fun e he=>by cases he)
  exact always_fn w' bc bm sD sT sS vb vm x pb q1 hsm hok [] q2 q3 (setI l) hs
 have hE:covE x l = if x.okB then (if basB (x.bases.length:Int) (-1) l then 0 else 1) else 80:=rfl
 unfold CvdP
 obtain ⟨E,hEE⟩:∃ E,covE x l = E:=⟨_,rfl⟩
 rw [hEE] at hE ⊢
 have hbm:=fun h=>basB_mem (n:=(x.bases.length:Int)) (l:=l) (last:=-1) h
 obtain ⟨B,hB⟩:∃ B,basB (x.bases.length:Int) (-1) l = B:=⟨_,rfl⟩
 rw [hB] at hbm
 simp only [hB] at has hE
 obtain ⟨aL,nL,cL,rfl⟩:=hl.shape
 unfold AskP at has
 unfold cov at has hal ⊢
 refine walk [3] [] (det0_ok _ _) Tryz.func30 rfl Tryz.ntmps30 res30 (by kernel_rfl) no_facts ?_
 simp (config := { maxSteps := 4000000 }) only [↓sxw,sxw,tf30,sxu,sxl,sxm,simprocAttr,dn]
 intro b3
 refine CallOb.pureH (fun w' hp=>has b3 _ (by simp) w' hp) ?_
 rintro r N (⟨ho,rfl,rfl⟩ | ⟨ho,bc,bm,rfl,rfl⟩)
 ·rw [ho,if_neg Bool.false_ne_true] at hE
  rw [hE]
  refine ⟨?_⟩
  simp (config := { maxSteps := 4000000 }) only [↓sxw,sxw,tf30,sxu,sxl,sxm,simprocAttr,dn]
  first | exact .inl ⟨by decide,rfl⟩ | exact .inl trivial | exact .inl (by decide)
 rw [ho,if_pos rfl] at hE
 have hok:=(Cst.okB_iff x).1 ho
 cases B with
 | false=>
  rw [if_neg Bool.false_ne_true] at hE
  rw [hE]
  refine ⟨?_⟩
  simp (config := { maxSteps := 4000000 }) only [↓sxw,sxw,tf30,sxu,sxl,sxm,simprocAttr,dn]
  first | exact .inl ⟨by decide,rfl⟩ | exact .inl trivial | exact .inl (by decide)
 | true=>
 rw [if_pos rfl] at hE
 have hnb:=hok.nb
 have hbs:∀ n ∈ l,-1 ≤ n ∧ n < 5:=fun n hn=>by
  have:=hbm rfl n hn
  omega
 have hs32:setI l < 32:=by
  have:=setI_lt l hbs l.length
  rwa [List.take_length] at this
 rw [hE]
 refine ⟨?_⟩
 simp (config := { maxSteps := 4000000 }) only [↓sxw,sxw,tf30,sxu,sxl,sxm,simprocAttr,dn]
 refine ld_cell (T:=22) (cs:=[.slice aL nL cL]) (by simp) rfl ?_
 simp (config := { maxSteps := 4000000 }) only [↓sxw,sxw,tf30,sxu,sxl,sxm,simprocAttr,dn]
 refine CallOb.pureH (fun w' hp=>hse hbs _ w' hp) ?_
 rintro r N rfl
 refine ⟨?_⟩
 simp (config := { maxSteps := 4000000 }) only [↓sxw,sxw,tf30,sxu,sxl,sxm,simprocAttr,dn]
 refine CallOb.mutH (A:=[mapO .i64 bm []]) ((HImp.app _ _ _).trans (HImp.swap _ _ _ _)) fps_map (fun w' hp=>by rw [fpsx_map]; exact hal hok hs32 bc bm _ (by simp) w' hp) ?_ (Post:=TimP x bm [] fun r _=>r = .bool (alwB x (setI l)))
 rintro r N2 ⟨K1,D1,rfl,hK1,rfl⟩
 refine ⟨?_⟩
 simp (config := { maxSteps := 4000000 }) only [↓sxw,sxw,tf30,sxu,sxl,sxm,simprocAttr,dn]
 first | exact .inr ⟨rfl,rfl⟩ | exact .inr trivial
end Go.Proofs.YtljpknnhimkkjaaGreatDoor

