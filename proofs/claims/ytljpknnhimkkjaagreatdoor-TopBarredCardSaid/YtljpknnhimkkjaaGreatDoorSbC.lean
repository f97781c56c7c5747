/- A part of a proof: the symbolic walk and what it shows of single functions. -/
import Derived.Test.YtljpknnhimkkjaaGreatDoorSbB
import Derived.Test.YtljpknnhimkkjaaGreatDoorC5
import Derived.Test.YtljpknnhimkkjaaGreatDoorC5
set_option linter.all false
namespace Go.Proofs.YtljpknnhimkkjaaGreatDoor
open Go.RowKit Go.SX
set_option maxRecDepth 10000
set_option maxHeartbeats 0
set_option linter.unusedSimpArgs false
set_option linter.unusedVariables false
theorem now_rc (c:Cht) (b:Cls) (k t:Nat):∀ i x,nowB c b k t i x = true → Rc c.W c.H k i x
 | 0,x,h=>by
  rw [nowB,decide_eq_true_eq] at h
  subst h
  exact .zero
 | i + 1,x,h=>by
  rw [nowB,Bool.and_eq_true,List.any_eq_true] at h
  obtain ⟨_,y,_,hy⟩:=h
  rw [Bool.and_eq_true] at hy
  exact .step (now_rc c b k t i y hy.1) (by simpa using hy.2)
theorem outV_now (c:Cht) (b:Cls) (k t:Nat):∀ m x,0 ≤ outV c b k t m x → ∃ i,i < m ∧ outV c b k t m x = ((t + i:Nat):Int) ∧ nowB c b k t i x = true
 | 0,x,h=>by rw [outV] at h; omega
 | m + 1,x,h=>by
  rw [outV] at h ⊢
  split at h
  ·rename_i h1
   rw [if_pos h1]
   exact ⟨m,by omega,rfl,h1.2⟩
  ·rename_i h1
   rw [if_neg h1]
   obtain ⟨i,h2,h3,h4⟩:=outV_now c b k t m x h
   exact ⟨i,by omega,h3,h4⟩
theorem reach_far {c:Cht} (hok:c.ok) {b:Cls} {r:Rmp} (hr:rampB c r = true) {t cell:Nat} (hc:cell < c.depth.length) (h:0 ≤ (reachL c b r t).getD cell 0):rdyB c b r t = true ∧ ((t + dst c.W c.H r.cell.toNat cell:Nat):Int) ≤ (reachL c b r t).getD cell 0:=by
 obtain ⟨_,_,_,_,hlen⟩:=hok.dims
 have hk:=ramp_cell hr
 unfold reachL at h ⊢
 split
 ·rename_i h1
  rw [if_pos h1] at h
  refine ⟨h1,?_⟩
  rw [List.getD_eq_getElem?_getD,List.getElem?_map,List.getElem?_range hc] at h ⊢
  simp only [Option.map_some,Option.getD_some] at h ⊢
  obtain ⟨i,_,h3,h4⟩:=outV_now c b r.cell.toNat t _ cell h
  rw [h3]
  have:=(dst_is (W:=c.W) (H:=c.H) (a:=r.cell.toNat) (x:=cell) (by omega) (by omega)).2 i (now_rc c b _ t i cell h4)
  omega
 ·rename_i h1
  rw [if_neg h1] at h
  rw [List.getD_eq_getElem?_getD,List.getElem?_replicate,if_pos hc] at h
  simp at h
theorem arvM_far {c:Cht} (hok:c.ok) {b:Bse} (hr:rampB c b.rmp = true) {cell beg:Nat} (hc:cell < c.depth.length):∀ m,0 ≤ arvM c b cell beg m → ∃ t,beg ≤ t ∧ t < beg + m ∧ rdyB c b.cls b.rmp t = true ∧ ((t + dst c.W c.H b.rmp.cell.toNat cell:Nat):Int) ≤ arvM c b cell beg m
 | 0,h=>by rw [arvM] at h; omega
 | m + 1,h=>by
  rw [arvM] at h ⊢
  split at h
  ·rename_i h1
   rw [if_pos h1]
   obtain ⟨h2,h3⟩:=reach_far hok hr hc h1.1
   exact ⟨beg + m,by omega,by omega,h2,h3⟩
  ·rename_i h1
   rw [if_neg h1]
   obtain ⟨t,h2,h3,h4,h5⟩:=arvM_far hok hr hc m h
   exact ⟨t,h2,by omega,h4,h5⟩
theorem base_ok {x:Cst} (hok:x.ok) {b:Bse} (hb:b ∈ x.bases):clsB b.cls = true ∧ rampB x.cht b.rmp = true:=by
 have:=(hok.bas b hb).1
 rw [sta_rmp0 hok.cht] at this
 exact (rmpE_ok this).2
theorem arv_far {x:Cst} (hok:x.ok) {b:Bse} (hb:b ∈ x.bases) {call:Int} {cell:Nat} (hc:cell < x.cht.depth.length) (h:0 ≤ arv x b call cell):∃ t:Nat,call ≤ t ∧ t < x.cht.tide.length ∧ rdyB x.cht b.cls b.rmp t = true ∧ ((t + dst x.cht.W x.cht.H b.rmp.cell.toNat cell:Nat):Int) ≤ arv x b call cell:=by
 unfold arv at h ⊢
 split
 ·rename_i h1
  rw [if_pos h1] at h
  have hm:=musT_bnd h1
  obtain ⟨t,h2,h3,h4,h5⟩:=arvM_far hok.cht (base_ok hok hb).2 hc _ h
  exact ⟨t,by omega,by omega,h4,h5⟩
 ·rename_i h1
  rw [if_neg h1] at h
  omega
def FstP (l:List (Int × Int)) (call T first:Int):Prop:=(first = -1 ∧ ∀ u:Int,call ≤ u → u < T → l.any (inW u) = false) ∨ (0 ≤ first ∧ first < T ∧ ∀ u:Int,call ≤ u → u < first → l.any (inW u) = false)
theorem fst_arr {x:Cst} (hok:x.ok) {b:Bse} (hb:b ∈ x.bases) {call first:Int} {cell:Nat} (h0:0 ≤ call) (hc:cell < x.cht.depth.length) (hf:FstP (winS x.cht (b.rmp.own b.cls)) call x.cht.tide.length first) (h:0 ≤ arv x b call cell):¬ first < 0 ∧ ¬ arv x b call cell < first + (dst x.cht.W x.cht.H b.rmp.cell.toNat cell:Nat):=by
 obtain ⟨t,h1,h2,h3,h4⟩:=arv_far hok hb hc h
 have hbo:=base_ok hok hb
 have hin:(winS x.cht (b.rmp.own b.cls)).any (inW (t:Int)) = true:=by
  unfold winS
  rw [if_pos ((winOk_iff _ _).2 ⟨hok.cht,own_ramp hbo.1 hbo.2⟩),(winL_ok _ _).2 t]
  unfold rdyB at h3
  rw [Bool.and_eq_true] at h3
  rw [h3.1,decide_eq_true h2]
  rfl
 rcases hf with ⟨rfl,h5⟩ | ⟨h5,h6,h7⟩
 ·rw [h5 t h1 (by omega)] at hin
  cases hin
 ·refine ⟨by omega,fun h8=>?_⟩
  have h9:¬ (t:Int) < first:=fun h9=>by
   rw [h7 t h1 h9] at hin
   cases hin
  omega
end Go.Proofs.YtljpknnhimkkjaaGreatDoor
