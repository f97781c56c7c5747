/- The theorem of the fewest bases: the bases of Least reach every mark in time, no list of fewer bases does, and if any does, there is Least, for every coast, call and list. No condition. -/
import Derived.Test.YtljpknnhimkkjaaGreatDoorH5
import Derived.Test.YtljpknnhimkkjaaGreatDoorH6
set_option linter.all false
namespace Go.Proofs.YtljpknnhimkkjaaGreatDoor
open Go.RowKit Go.SX Go.ChangeShapes Go.WideShapes Go.ChangeAt
set_option maxRecDepth 100000
theorem coverLeast_lifted (os:Os) (started:os.Started) (H:Type) (enc:TypeId × Value → H):
  ReturnsInHanded {} Tryz.checked os 12 .any (fun w args=>(Rows.coverLeastSpec.pre enc Tryz.prog Tryz.f12 Rows.coverLeastRow.domain false w args ∧ laidMetH Tryz.prog laid1 w) ∧ sizedMet enc Tryz.prog Tryz.f12 (OpenSpec.ofChange Rows.coverLeastSpec) false w args)
   (Rows.coverLeastSpec.post enc Tryz.prog Tryz.f12 false true false false):=by
 refine returnsInHanded_of_change_and (C:=Tryz.checked) (X:=fun w _=>laidMetH Tryz.prog laid1 w) (fun _ _ _ hh h=>h.of_heap hh) own0 started (by kernel_rfl) Tryz.func12
  (ChangeSpec.witness_shaped (enc:=enc) (C:=Tryz.checked) (os:=os) (X:=fun w _=>laidMetH Tryz.prog laid1 w) false (World.laidAll Tryz.prog os laid1) #[.agg #[.int .i64 0,.int .i64 0,.slice none 0 0,.slice none 0 0,.slice none 0 0,.slice none 0 0,.slice none 0 0,.int .i64 0,.int .i64 0],.agg #[.int .i64 0,.int .i64 0,.int .i64 0,.slice none 0 0]] 8 (World.laidAll_os _ _ _)
   (World.shaped_of_ZipB (by kernel_rfl) (by kernel_rfl)) (by kernel_rfl) (by kernel_rfl) (by kernel_rfl)
   (by rw [MakeChecks.laidMetH_plain _ _ _ (by kernel_rfl)]; exact laidMet_laidAll _ (by kernel_rfl) (by kernel_rfl))) ?_
 intro W base args ds gs before hval0 hW _ _ hL _
 have hval:∀ (j:Nat) t v,Tryz.f12.params[j]? = some t → args[j]? = some v → Value.okWide Tryz.prog W .any base t v:=hval0
 have hW':=hW
 obtain ⟨p,q,hA0,hV,rfl,hfz,hnd⟩:=hW
 have hA:DataW.TrodAll enc Tryz.prog W 0 (fun _=>true) true Tryz.f12.params.toList args.toList ds p:=hA0
 rw [Tryz.params12] at hA hval
 obtain ⟨v0,v1,d0,d1,p0,p1,rfl,rfl,rfl,h0,h1⟩:=trodAll_two hA
 obtain ⟨rfl,rfl⟩:=trodVars_none hV
 obtain ⟨c0,hc0⟩:=coast_of (hval 0 29 v0 rfl rfl) h0
 obtain ⟨x1,y1,z1,s1,l1,rfl,hl1⟩:=query_of (hval 1 67 v1 rfl rfl) h1
 exact law_calls (by kernel_rfl) rfl Tryz.underlying4 rfl hW' rfl rfl rfl (coverLeast_fn W (ways_of_laid hL) v0 c0 hc0 x1 y1 z1 s1 l1 hl1)
theorem coverLeast_holds:Rows.CoverLeastSaid:=
 OpenClaim.holds_of_wide 12 Tryz.f12 rfl rfl rfl rfl rfl rfl rfl ⟨rfl,rfl,rfl,rfl,rfl⟩ rfl rfl rfl rfl rfl (by kernel_rfl) Tryz.func12 (by kernel_rfl)
  (of_decide_eq_true (by kernel_rfl)) (by unfold Func.isWrapper; first | (rw [if_pos (by decide +kernel)]; kernel_rfl) | (rw [if_neg (by decide +kernel)]; exact ⟨rfl,rfl⟩))
  (fun os started H enc _=>coverLeast_lifted os started H enc)
theorem coverLeast_card:Rows.CoverLeastCardSaid:=
 Claim7.holds_tied_plain_at .later [] [.data] true Rows.coverLeastCard.stood.harness false
  coverLeast_holds (fun _ h=>by cases h) (by kernel_rfl) (fun _ h=>by cases h) coverLeast_row_tie rfl ⟨rfl,rfl⟩ (by kernel_rfl) rfl
  (fun f fn hf hfn=>by
   obtain rfl:f = 12:=Option.some.inj ((show Tryz.prog.funcNamed "coble/coblelaw08.CoverLeast" = some 12 by kernel_rfl).symm.trans hf) |>.symm
   obtain rfl:fn = Tryz.f12:=(Option.some.inj (Tryz.func12.symm.trans hfn)).symm
   exact ⟨by kernel_rfl,fun j t ht=>by
    rw [Tryz.params12] at ht
    have hm:t ∈ [29,67]:=by
     have:=Array.mem_of_getElem? ht
     simp only [List.mem_toArray,List.mem_cons,List.not_mem_nil,or_false] at this
     rcases this with rfl | rfl <;> simp
    have hall:([29,67].all fun u=>!Tryz.prog.wantsStandIn u) = true:=by kernel_rfl
    exact (show Tryz.prog.wantsStandIn t = false by simpa using List.all_eq_true.1 hall t hm)⟩)
  (by kernel_rfl)
end Go.Proofs.YtljpknnhimkkjaaGreatDoor
