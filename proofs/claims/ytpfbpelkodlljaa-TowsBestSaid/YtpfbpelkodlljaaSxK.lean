/- A range over a function: soundness. -/
import Derived.Test.YtpfbpelkodlljaaSxJ
set_option linter.all false
namespace Go.SX
open Go.RowKit

def X.code : X → Code
  | .nxt => .skip
  | .ext i => .exit i
  | .ret => .ret

/-- The record of a loop over a function. -/
def rec0 (fn : Nat) (tmps : Array Value) (ps : Array Tmp) (assign body : Code) (df : Nat) (st : LoopState) (pd : Option Code) : Loop :=
  { state := st, pending := pd, fn := fn, tmps := tmps, params := ps, assign := assign, body := body, defers := df }

/-- Where the caller of an iterator stands. -/
def JSt (w0 : Base) (bs : Nat → Nat) (ks : List (Nat × Obj)) (n : Nat) (l : Nat) (rc : LoopState → Option Code → Loop) (I : Nat → List Box → List HO → Prop) (Qx : X → List Box → List HO → Prop) (st : Option Nat) (C R : Nat → Prop) (v : World) : Prop :=
  ∃ L' H', L'.length = n ∧ RelS w0 bs ks L' H' v ∧ (∀ j, j < n → l ≠ bs j) ∧ (∀ h ∈ H', ¬ h.fp l) ∧ (∀ b, C b ↔ ownC bs L' H' l b) ∧ (∀ b, R b ↔ ownR ks H' b) ∧
    match st with
    | some k => v.heap[l]? = some (.loop (rc .ready none)) ∧ I k L' H'
    | none => ∃ x, x ≠ X.nxt ∧ v.heap[l]? = some (.loop (rc .done (some x.code))) ∧ Qx x L' H'

theorem enter_run {P : Program} {w0 : Base} {bs : Nat → Nat} {ks : List (Nat × Obj)} {ms : List Nat} {L : List Box} {H : List HO} {w : World} {rd : Option Nat} (r : Rel w0 bs ks L H w) (hm : MarksOk ks ms) (hrd : RdOk rd ks) (fn : Nat) (tmps : Array Value) (ps : Array Tmp) (assign body : Code) :
    ∃ l mark w1 ms1 ks1 df, (Instr.enterLoop fn tmps ps assign body rd).run P w = .ok (l, mark) w1 ∧ mark ++ ms.map mkD = ms1.map mkD ∧ MarksOk ks1 ms1 ∧ (rd.isSome = true → ms1 = ms) ∧ (∀ y ∈ ks, y ∈ ks1) ∧
      Rel w0 bs ((l, .loop (rec0 fn tmps ps assign body df .ready none)) :: ks1) L H w1 ∧ (∀ x ∈ ks1, x.1 ≠ l) ∧ w.heap.size ≤ l ∧ Keep (fun _ => False) w w1 := by
  cases rd with
  | none =>
    have r1 := r.newK (.deferred (some []))
    have r2 := r1.newK (.loop (rec0 fn tmps ps assign body w.heap.size .ready none))
    simp only [World.size_alloc] at r2
    refine ⟨_, _, _, w.heap.size :: ms, _, w.heap.size, run_enterLoop_outer fn tmps ps assign body, rfl, ⟨List.nodup_cons.2 ⟨fun h => ?_, hm.1⟩, fun x hx => ?_⟩, (fun h => by cases h), fun y hy => List.mem_cons_of_mem _ hy, r2, fun x hx => ?_, by omega, ?_⟩
    · have := lt_of_heap (r.kok _ (hm.2 _ h))
      simp at this
    · rcases List.mem_cons.1 hx with rfl | hx
      · exact List.mem_cons_self
      · exact List.mem_cons_of_mem _ (hm.2 x hx)
    · rcases List.mem_cons.1 hx with rfl | hx
      · simp
      · have := lt_of_heap (r.kok x hx)
        omega
    · exact ((Keep.alloc (fun _ => False) w (.deferred (some []))).trans (Keep.alloc (fun _ => False) _ _)).mono fun b hb => hb.elim id id
  | some l0 =>
    obtain ⟨r0, hr0⟩ := hrd l0 rfl
    have r1 := r.newK (.loop (rec0 fn tmps ps assign body r0.defers .ready none))
    refine ⟨_, _, _, ms, ks, r0.defers, run_enterLoop_inner (r.kok _ hr0) fn tmps ps assign body, rfl, hm, fun _ => rfl, fun _ h => h, r1, fun x hx => ?_, Nat.le_refl _, Keep.alloc _ w _⟩
    have := lt_of_heap (r.kok x hx)
    omega

theorem RelS.ltC {w0 : Base} {bs : Nat → Nat} {ks : List (Nat × Obj)} {L : List Box} {H : List HO} {w : World} {l : Nat} {o : Obj} (r : RelS w0 bs ks L H w) (hl : w.heap[l]? = some o) {b : Nat} (h : ownC bs L H l b ∨ ownR ks H b) : b < w.heap.size := by
  rcases h with (⟨j, hj, rfl⟩ | ⟨x, hx, hb⟩ | rfl) | (⟨x, hx, hb⟩ | ⟨x, hx, rfl⟩)
  · exact lt_of_heap (r.box j _ _ (by rw [List.getElem?_eq_getElem hj]))
  · exact HO.lt (r.ok x hx) (HO.fp_of_fpx hb)
  · exact lt_of_heap hl
  · exact HO.lt (r.ok x hx) hb
  · exact lt_of_heap (r.kok x hx)

theorem fps_append {A B : List HO} {b : Nat} (h : fps (A ++ B) b) : fps A b ∨ fps B b := by
  obtain ⟨x, hx, hb⟩ := h
  rcases List.mem_append.1 hx with hx | hx
  · exact .inl ⟨x, hx, hb⟩
  · exact .inr ⟨x, hx, hb⟩

theorem fpsx_append {A B : List HO} {b : Nat} (h : fpsx (A ++ B) b) : fpsx A b ∨ fpsx B b := by
  obtain ⟨x, hx, hb⟩ := h
  rcases List.mem_append.1 hx with hx | hx
  · exact .inl ⟨x, hx, hb⟩
  · exact .inr ⟨x, hx, hb⟩

/-- The state in a round: the facts that were handed over beside the caller's own. -/
theorem round_rel {w0 : Base} {bs : Nat → Nat} {ks : List (Nat × Obj)} {L : List Box} {H F : List HO} {v ws : World} {l : Nat} {o : Obj} {C0 A C : Nat → Prop} (r : RelS w0 bs ks L H v) (hl : v.heap[l]? = some o) (hlb : ∀ j, j < L.length → l ≠ bs j) (hlh : ∀ h ∈ H, ¬ h.fp l) (hC : ∀ b, C b ↔ ownC bs L H l b)
    (hF : ∀ h ∈ F, h.ok v) (hFx : ∀ h ∈ F, ∀ b, ¬ h.fpx b) (hFC : ∀ b, fps F b → ¬ C b ∧ ws.heap.size ≤ b) (hFn : F.Pairwise Apart) (hk : Keep (fun b => C0 b ∨ A b) ws v) (hext : Keep w0.X w0.w ws) (hCA : ∀ b, C0 b ∨ A b → w0.X b ∨ w0.w.heap.size ≤ b)
    (hks : ∀ x ∈ ks, x.1 < ws.heap.size) (hkl : ∀ x ∈ ks, x.1 ≠ l) (hlo : w0.w.heap.size ≤ l) :
    Rel w0 bs ((l, o) :: ks) L (F ++ H) v := by
  have hd : ∀ h ∈ F, ∀ h' ∈ H, Apart h h' := fun h hh h' hh' b hb hb' => ⟨hFx h hh b, fun hx => (hFC b ⟨h, hh, hb⟩).1 ((hC b).2 (.inr (.inl ⟨h', hh', hx⟩)))⟩
  refine ⟨⟨hk.into hext hCA, fun h hh => ?_, fun h hh b hb => ?_, List.pairwise_append.2 ⟨hFn, r.nd, hd⟩⟩, r.box, r.bold, r.bnd, fun j hj h hh hb => ?_, fun x hx => ?_, fun x hx => ?_, fun x hx h hh hb => ?_, fun x hx => ?_⟩
  · rcases List.mem_append.1 hh with hh | hh
    · exact hF h hh
    · exact r.ok h hh
  · rcases List.mem_append.1 hh with hh | hh
    · exact .inr (Nat.le_trans hext.size (hFC b ⟨h, hh, HO.fp_of_fpx hb⟩).2)
    · exact r.old h hh b hb
  · rcases List.mem_append.1 hh with hh | hh
    · exact (hFC _ ⟨h, hh, hb⟩).1 ((hC _).2 (.inl ⟨j, hj, rfl⟩))
    · exact r.bh j hj h hh hb
  · rcases List.mem_cons.1 hx with rfl | hx
    · exact hl
    · exact r.kok x hx
  · rcases List.mem_cons.1 hx with rfl | hx
    · exact hlo
    · exact r.kold x hx
  · rcases List.mem_cons.1 hx with rfl | hx
    · rcases List.mem_append.1 hh with hh | hh
      · exact (hFC _ ⟨h, hh, hb⟩).1 ((hC _).2 (.inr (.inr rfl)))
      · exact hlh h hh hb
    · rcases List.mem_append.1 hh with hh | hh
      · have := (hFC _ ⟨h, hh, hb⟩).2
        have := hks x hx
        omega
      · exact r.kh x hx h hh hb
  · rcases List.mem_cons.1 hx with rfl | hx
    · exact hlb
    · exact r.kb x hx

/-- The end of a round: what the handler must show. -/
theorem round_end {w0 : Base} {bs bs3 : Nat → Nat} {ks ks3 : List (Nat × Obj)} {L L3 : List Box} {H F H3 H4 : List HO} {v w3 : World} {l n : Nat} {o o' : Obj} {C R : Nat → Prop} (hn : L.length = n) (hC : ∀ b, C b ↔ ownC bs L H l b) (hR : ∀ b, R b ↔ ownR ks H b) (hFx : ∀ h ∈ F, ∀ b, ¬ h.fpx b)
    (hkl : ∀ x ∈ ks, x.1 ≠ l) (r3 : Rel w0 bs3 ks3 L3 H3 w3) (hks3 : ∀ x ∈ (l, o) :: ks, x ∈ ks3) (hag : ∀ j, j < L.length → bs3 j = bs j) (hle : L.length ≤ L3.length) (hkC : Keep C v w3) (hfp : ∀ b, fps H3 b → fps (F ++ H) b ∨ v.heap.size ≤ b) (hfx : ∀ b, fpsx H3 b → fpsx (F ++ H) b ∨ v.heap.size ≤ b) (hi : HImp w0 H3 H4) :
    ∃ (C2 R2 : Nat → Prop), Keep C v (w3.putObj l o') ∧ (∀ b, C2 b → C b ∨ v.heap.size ≤ b) ∧ (∀ b, R2 b → R b ∨ fps F b ∨ C b ∨ v.heap.size ≤ b) ∧ RelS w0 bs ks (L3.take n) H4 (w3.putObj l o') ∧ (L3.take n).length = n ∧ (w3.putObj l o').heap[l]? = some o' ∧ (∀ j, j < n → l ≠ bs j) ∧ (∀ h ∈ H4, ¬ h.fp l) ∧
      (∀ b, C2 b ↔ ownC bs (L3.take n) H4 l b) ∧ (∀ b, R2 b ↔ ownR ks H4 b) := by
  have hlen : (L3.take n).length = n := by simp; omega
  have r4 : Rel w0 bs ((l, o) :: ks) (L3.take n) H4 w3 := (((r3.take n).imp hi).dropK hks3).agree fun j hj => (hag j (by omega)).symm
  have hl0 := r4.kok (l, o) List.mem_cons_self
  have hlt := lt_of_heap hl0
  have r5 := (r4.dropK (ks' := ks) fun x hx => List.mem_cons_of_mem _ hx).putK (o := o') hlt (r4.kold _ List.mem_cons_self) (r4.kb (l, o) List.mem_cons_self) (r4.kh (l, o) List.mem_cons_self) hkl
  have fx : ∀ b, fpsx H4 b → C b ∨ v.heap.size ≤ b := by
    intro b hb
    rcases hfx b ((hi w3 r3.hp).2.2 b hb) with x | x
    · rcases fpsx_append x with ⟨h, hh, hx⟩ | x
      · exact absurd hx (hFx h hh b)
      · exact .inl ((hC b).2 (.inr (.inl x)))
    · exact .inr x
  refine ⟨ownC bs (L3.take n) H4 l, ownR ks H4, ?_, ?_, ?_, (r5.dropK fun x hx => List.mem_cons_of_mem _ hx).part, hlen, r5.kok _ List.mem_cons_self, fun j hj => r4.kb (l, o) List.mem_cons_self j (by omega), r4.kh (l, o) List.mem_cons_self, fun _ => Iff.rfl, fun _ => Iff.rfl⟩
  · exact (putObj_keep o').into hkC fun b e => .inl ((hC b).2 (.inr (.inr e)))
  · rintro b (⟨j, hj, rfl⟩ | hb | rfl)
    · exact .inl ((hC _).2 (.inl ⟨j, by omega, rfl⟩))
    · exact fx b hb
    · exact .inl ((hC _).2 (.inr (.inr rfl)))
  · rintro b (hb | ⟨x, hx, rfl⟩)
    · rcases hfp b ((hi w3 r3.hp).2.1 b hb) with x | x
      · rcases fps_append x with x | x
        · exact .inr (.inl x)
        · exact .inl ((hR b).2 (.inl x))
      · exact .inr (.inr (.inr x))
    · exact .inl ((hR _).2 (.inr ⟨x, hx, rfl⟩))

theorem invoke_run {P : Program} {gf : Nat} (hT : CallT P gf) {first cap : Array Value} {a : Act} {g : Operand} (hg : a.eval g = .func (.func gf) first cap) (l : Nat) (w : World) :
    ∃ d, (resolve a.eval (rangeCall g l) 0).run P w = .ok d w ∧ (invoke d.target d.args).run P w = .ok (.enter gf (first.toList ++ [Value.func (.yield l) #[] #[]] ++ cap.toList).toArray) w := by
  refine ⟨{ target := .fn (.func gf) cap, args := first ++ #[.func (.yield l) #[] #[]] }, ?_, ?_⟩
  · simp only [resolve, hg, Deferred.ofValue]
    simp [Act.eval]
  · simp only [invoke]
    rw [hT]
    congr 2
    apply Array.ext'
    simp

theorem range_sound {E : Env} {assign body : Code} {Ba Bb : XSt → St} (hBa : ∀ Q fr L H, Ba Q fr L H → Wp E assign Q fr L H) (hBb : ∀ Q fr L H, Bb Q fr L H → Wp E body Q fr L H) {g : Operand} {ps : Array Tmp} {Q : XSt} {fr : List SV} {L : List Box} {H : List HO}
    (h : RangeOb E.P E.w0 Ba Bb (op1 fr g) ps.toList Q fr L H) : Wp E (.rangeFunc g ps assign body) Q fr L H := by
  intro rd bs ks ms w r hf hm hrd
  unfold RangeOb at h
  split at h
  case h_2 => exact h.elim
  rename_i gf first cap hg
  obtain ⟨hT, n, arg, A, Hc, I, Aw, Rs, himp, hAw, hRs, hiter, hI0, hvs, hround, hafter⟩ := h
  refine wpIn_rangeFunc fun fn _ => ?_
  obtain ⟨l, mark, w1, ms1, ks1, df, hrun, hmark, hm1, hmr, hks, r1, hkl, hlw, hk01⟩ := enter_run (P := E.P) r hm hrd fn (rf bs fr) ps assign body
  have hgv : ({ tmps := rf bs fr, defers := ms.map mkD } : Act).eval g = .func (.func gf) first cap := by rw [op1_real, hg]; rfl
  obtain ⟨d, hres, hinv⟩ := invoke_run (P := E.P) hT hgv l w1
  refine ⟨l, mark, w1, d, w1, gf, _, w1, hrun, hres, fun _ _ => trivial, hinv, (fun h => by simp [fence, Fence.wide] at h), fence_calls ?_⟩
  have r1c := r1.imp himp
  have hl1 := r1.kok (l, _) List.mem_cons_self
  have hl1b := r1.kb (l, _) List.mem_cons_self
  have hlold := r1.kold (l, _) List.mem_cons_self
  have rc : Rel E.w0 bs ks1 L Hc w1 := (r1c.imp (HImp.sub (List.sublist_append_right A Hc))).dropK fun x hx => List.mem_cons_of_mem _ hx
  have hApx : ∀ b, fpsx A b → E.w0.X b ∨ E.w0.w.heap.size ≤ b := fun b ⟨x, hx, hb⟩ => r1c.hp.old x (by simp [hx]) b hb
  let rc0 := rec0 fn (rf bs fr) ps assign body df
  let Qx : X → List Box → List HO → Prop := fun x L' H' => Q x fr L' H'
  let J := JSt E.w0 bs ks1 L.length l rc0 I Qx
  have hndA := List.pairwise_append.1 r1c.hp.nd
  have hCA : ∀ b, ownC bs L Hc l b ∨ Aw b → E.w0.X b ∨ E.w0.w.heap.size ≤ b := by
    rintro b ((⟨j, hj, rfl⟩ | ⟨x, hx, hb⟩ | rfl) | hb)
    · exact .inr (r1.bold j hj)
    · exact rc.hp.old x hx b hb
    · exact .inr hlold
    · exact hApx b (hAw b hb)
  have hhand : Handler E.P l n arg w1 (ownC bs L Hc l) Aw J := by
    refine ⟨?_, ?_, ?_⟩
    · rintro st C R wa wb hs hlt ⟨L', H', hn, hr, hlb, hlh, hC, hR, hst⟩
      have hs' : SameOn (fun b => ownC bs L' H' l b ∨ ownR ks1 H' b) wa wb := ⟨hs.size, fun b hb => hs.same b (hb.imp (hC b).2 (hR b).2)⟩
      refine ⟨L', H', hn, hr.stable hs', hlb, hlh, hC, hR, ?_⟩
      have hl := hs'.same l (.inl (.inr (.inr rfl)))
      cases st with
      | some k => exact ⟨hl.trans hst.1, hst.2⟩
      | none =>
        obtain ⟨x, hx, h1, h2⟩ := hst
        exact ⟨x, hx, hl.trans h1, h2⟩
    · rintro st C R wa ⟨L', H', hn, hr, hlb, hlh, hC, hR, hst⟩ b hb
      have hb' := hb.imp (hC b).1 (hR b).1
      cases st with
      | some k => exact hr.ltC hst.1 hb'
      | none =>
        obtain ⟨x, hx, h1, h2⟩ := hst
        exact hr.ltC h1 hb'
    · rintro k C R vs F v hk ⟨L', H', hn, hr, hlb, hlh, hC, hR, hlv, hI⟩ harg hF hFx hFC hFn hkeep
      have hlen := hvs k vs F harg
      have hks1 : ∀ x ∈ ks1, x.1 < w1.heap.size := fun x hx => lt_of_heap (r1.kok x (List.mem_cons_of_mem _ hx))
      have hrel := round_rel hr hlv (by rw [hn]; exact hlb) hlh hC hF hFx hFC hFn hkeep r1.hp.ext hCA hks1 hkl hlold
      have hW := hBa _ _ _ _ (hround k vs F L' H' hk harg hn hI) (some l) bs ((l, .loop (rc0 .ready none)) :: ks1) [] v hrel (setPs_wf _ _ _ (hf.le (by omega))) ⟨List.nodup_nil, fun x hx => by cases hx⟩ (fun l' hl' => by cases hl'; exact ⟨_, List.mem_cons_self⟩)
      refine ⟨_, _, _, _, run_yield hlv (by simp [rc0, rec0, hlen]), roundIn_of_wpIn trivial ?_⟩
      have htm : (((rc0 .ready none).params.zip vs.toArray).foldl (fun tmps (x : Tmp × Value) => tmps.setIfInBounds x.1 x.2) (rc0 .ready none).tmps) = rf bs (setPs fr ps.toList vs) := by
        have := setPs_rf bs ps.toList vs fr (by simpa using hlen.symm)
        simpa [rc0, rec0] using this
      rw [show (((rc0 .ready none).params.zip vs.toArray).foldl (fun tmps x => match x with | (t, a) => tmps.setIfInBounds t a) (rc0 .ready none).tmps) = rf bs (setPs fr ps.toList vs) from htm]
      refine wpIn_mono hW fun e a wa hp => ?_
      obtain ⟨x, fr2, bs2, ks2, ms2, L2, H2, rfl, rfl, hq, hf2, hc2, hks2, hm2, hmr2, hr2⟩ := hp
      cases x with
      | ext i => exact hq.elim
      | ret => exact hq.elim
      | nxt =>
        have hms2 := hmr2 rfl
        subst hms2
        have hl2 := hr2.kok _ (hks2 _ List.mem_cons_self)
        refine ⟨_, run_beginRound hl2 rfl, ?_⟩
        have hr3 : Rel E.w0 bs2 ((l, .loop (rc0 .busy none)) :: ks1) L2 H2 (wa.putObj l (.loop (rc0 .busy none))) :=
          (hr2.dropK (ks' := ks1) fun x hx => hks2 x (List.mem_cons_of_mem _ hx)).putK (lt_of_heap hl2) hlold (hr2.kb _ (hks2 _ List.mem_cons_self)) (hr2.kh _ (hks2 _ List.mem_cons_self)) hkl
        have hW2 := hBb _ _ _ _ hq (some l) bs2 ((l, .loop (rc0 .busy none)) :: ks1) [] _ hr3 hf2 ⟨List.nodup_nil, fun x hx => by cases hx⟩ (fun l' hl' => by cases hl'; exact ⟨_, List.mem_cons_self⟩)
        refine wpIn_mono hW2 fun e a wb hp => ?_
        obtain ⟨x, fr3, bs3, ks3, ms3, L3, H3, rfl, rfl, hq3, hf3, hc3, hks3, hm3, hmr3, hr3'⟩ := hp
        have hl3 := hr3'.kok _ (hks3 _ List.mem_cons_self)
        -- the whole round's step, from v1 (v with the record busy) on
        have hv1 : Keep (fun b => C b) v (wa.putObj l (.loop (rc0 .busy none))) := by
          refine (putObj_keep _).into (hc2.frm.keep.into (Keep.refl _ v) fun b hb => ?_) fun b e => .inl ((hC b).2 (.inr (.inr e)))
          rcases hb with hb | ⟨j, hj, rfl⟩
          · rcases fpsx_append hb with ⟨h, hh, hx⟩ | x
            · exact absurd hx (hFx h hh b)
            · exact .inl ((hC b).2 (.inr (.inl x)))
          · exact .inl ((hC _).2 (.inl ⟨j, hj, rfl⟩))
        have h2 := hc2.frm
        have h3 := hc3.frm
        have hsz2 := h2.keep.size
        have toC : ∀ b, fpsx (F ++ H') b → C b := fun b hb => by
          rcases fpsx_append hb with ⟨h, hh, hx⟩ | x
          · exact absurd hx (hFx h hh b)
          · exact (hC b).2 (.inr (.inl x))
        have hkC : Keep C v wb := by
          refine h3.keep.into hv1 fun b hb => ?_
          rcases hb with hb | ⟨j, hj, rfl⟩
          · rcases h2.fx b hb with x | x
            · exact .inl (toC b x)
            · exact .inr x
          · rcases h2.bx j hj with ⟨i, hi, e⟩ | x
            · exact .inl ((hC _).2 (.inl ⟨i, hi, e⟩))
            · exact .inr x
        have hfp : ∀ b, fps H3 b → fps (F ++ H') b ∨ v.heap.size ≤ b := fun b hb => by
          rcases h3.fp b hb with x | x
          · exact h2.fp b x
          · exact .inr (by simp at x; omega)
        have hfx : ∀ b, fpsx H3 b → fpsx (F ++ H') b ∨ v.heap.size ≤ b := fun b hb => by
          rcases h3.fx b hb with x | x
          · exact h2.fx b x
          · exact .inr (by simp at x; omega)
        have hag : ∀ j, j < L'.length → bs3 j = bs j := fun j hj => (hc3.agree j (Nat.lt_of_lt_of_le hj hc2.le)).trans (hc2.agree j hj)
        have hle : L'.length ≤ L3.length := Nat.le_trans hc2.le hc3.le
        cases x with
        | nxt =>
          obtain ⟨H4, himp4, hI4⟩ := hq3
          obtain ⟨C2, R2, e1, e2, e3, e4, e5, e6, e7, e8, e9, e10⟩ := round_end (o' := .loop (rc0 .ready none)) hn hC hR hFx hkl hr3' hks3 hag hle hkC hfp hfx himp4
          exact ⟨_, _, run_endRound none hl3, true, C2, R2, rfl, e1, e2, e3, _, H4, e5, e4, e7, e8, e9, e10, e6, hI4⟩
        | ext i =>
          obtain ⟨H4, himp4, hQ4⟩ := hq3
          obtain ⟨C2, R2, e1, e2, e3, e4, e5, e6, e7, e8, e9, e10⟩ := round_end (o' := .loop (rc0 .done (some (.exit i)))) hn hC hR hFx hkl hr3' hks3 hag hle hkC hfp hfx himp4
          exact ⟨_, _, run_endRound (some (.exit i)) hl3, false, C2, R2, rfl, e1, e2, e3, _, H4, e5, e4, e7, e8, e9, e10, .ext i, (fun h => by cases h), e6, hQ4⟩
        | ret =>
          obtain ⟨H4, himp4, hQ4⟩ := hq3
          obtain ⟨C2, R2, e1, e2, e3, e4, e5, e6, e7, e8, e9, e10⟩ := round_end (o' := .loop (rc0 .done (some .ret))) hn hC hR hFx hkl hr3' hks3 hag hle hkC hfp hfx himp4
          exact ⟨_, _, run_endRound (some .ret) hl3, false, C2, R2, rfl, e1, e2, e3, _, H4, e5, e4, e7, e8, e9, e10, .ret, (fun h => by cases h), e6, hQ4⟩
  have hJ0 : J (some 0) (ownC bs L Hc l) (ownR ks1 Hc) w1 := ⟨L, Hc, rfl, rc.part, hl1b, fun h hh => r1c.kh (l, _) List.mem_cons_self h (by simp [hh]), fun _ => Iff.rfl, fun _ => Iff.rfl, hl1, hI0⟩
  have hAd : ∀ b, fpsx A b → ¬ ownC bs L Hc l b ∧ ¬ ownR ks1 Hc b := by
    rintro b ⟨x, hx, hb⟩
    refine ⟨?_, ?_⟩
    · rintro (⟨j, hj, rfl⟩ | ⟨y, hy, hyb⟩ | rfl)
      · exact r1c.bh j hj x (by simp [hx]) (HO.fp_of_fpx hb)
      · exact (hndA.2.2 x hx y hy b (HO.fp_of_fpx hb) (HO.fp_of_fpx hyb)).1 hb
      · exact r1c.kh (b, _) List.mem_cons_self x (by simp [hx]) (HO.fp_of_fpx hb)
    · rintro (⟨y, hy, hyb⟩ | ⟨y, hy, rfl⟩)
      · exact (hndA.2.2 x hx y hy b (HO.fp_of_fpx hb) hyb).1 hb
      · exact r1c.kh y (List.mem_cons_of_mem _ hy) x (by simp [hx]) (HO.fp_of_fpx hb)
  have hRd : ∀ b, Rs b → ¬ ownC bs L Hc l b := fun b hb hc => by
    rcases hRs b hb with ⟨h1, h2⟩ | h1
    · rcases hCA b (.inl hc) with x | x
      · exact h2 x
      · omega
    · exact (hAd b h1).1 hc
  refine Calls.mono (hiter w1 r1c.hp l J _ _ hhand hJ0 (fun b hb => hAd b (hAw b hb)) hRd) fun e w2 he => ?_
  obtain ⟨st, C2, R2, rfl, hk2, hC2, hR2, hst, L', H', hn, hr, hlb, hlh, hCiff, hRiff, hend⟩ := he
  have himp1 := himp w1 r1.hp
  have fxH : ∀ b, ownC bs L Hc l b → fpsx H b ∨ (∃ j, j < L.length ∧ b = bs j) ∨ b = l := by
    rintro b (⟨j, hj, rfl⟩ | hb | rfl)
    · exact .inr (.inl ⟨j, hj, rfl⟩)
    · exact .inl (himp1.2.2 b (by obtain ⟨y, hy, hyb⟩ := hb; exact ⟨y, by simp [hy], hyb⟩))
    · exact .inr (.inr rfl)
  -- behind the function's return: the record is shut
  have close : ∀ (st' : LoopState) (pd : Option Code), w2.heap[l]? = some (.loop (rc0 st' pd)) → st' ≠ .busy → ∃ w3, (Instr.endLoop l).run E.P w2 = .ok pd w3 ∧ Rel E.w0 bs ks1 L' H' w3 ∧ Come bs bs L L' H H' w w3 := by
    intro st' pd hl2 hb
    have hr2 : Rel E.w0 bs ks1 L' H' w2 := hr.whole (hk2.into r1.hp.ext hCA)
    have hr3 := hr2.putK (o := .loop (rc0 .exhausted pd)) (lt_of_heap hl2) hlold (by rw [hn]; exact hlb) hlh hkl
    refine ⟨_, run_endLoop hl2 hb, hr3.dropK fun x hx => List.mem_cons_of_mem _ hx, fun _ _ => rfl, by omega, ?_, fun b hb => ?_, fun b hb => ?_, fun j hj => .inl ⟨j, by omega, rfl⟩⟩
    · refine (putObj_keep _).into (M := fun b => b = l) (hk2.into (hk01.mono fun _ h => h.elim) fun b hb => ?_) fun b e => .inr (e ▸ hlw)
      rcases hb with hb | hb
      · rcases fxH b hb with x | x | rfl
        · exact .inl (.inl x)
        · exact .inl (.inr x)
        · exact .inr hlw
      · exact .inl (.inl (himp1.2.2 b (by obtain ⟨y, hy, hyb⟩ := hAw b hb; exact ⟨y, by simp [hy], hyb⟩)))
    · rcases hR2 b ((hRiff b).2 (.inl hb)) with (hb' | ⟨x, hx, rfl⟩) | hb' | x
      · exact .inl (himp1.2.1 b (by obtain ⟨y, hy, hyb⟩ := hb'; exact ⟨y, by simp [hy], hyb⟩))
      · obtain ⟨y, hy, hyb⟩ := hb
        exact absurd hyb (hr.kh x hx y hy)
      · rcases fxH b hb' with x | ⟨j, hj, rfl⟩ | rfl
        · exact .inl (fps_of_fpsx x)
        · obtain ⟨y, hy, hyb⟩ := hb
          exact absurd hyb (hr.bh j (by omega) y hy)
        · exact .inr hlw
      · have := hk01.size
        exact .inr (by omega)
    · rcases hC2 b ((hCiff b).2 (.inr (.inl hb))) with hb' | x
      · rcases fxH b hb' with x | ⟨j, hj, rfl⟩ | rfl
        · exact .inl x
        · obtain ⟨y, hy, hyb⟩ := hb
          exact absurd (HO.fp_of_fpx hyb) (hr.bh j (by omega) y hy)
        · exact .inr hlw
      · have := hk01.size
        exact .inr (by omega)
  have hwf : WfFr L'.length fr := hf.le (by omega)
  simp only [rangePost, hmark]
  rcases hst with rfl | rfl
  · obtain ⟨hl2, hI2⟩ := hend
    obtain ⟨w3, hrun3, hr3, hc3⟩ := close _ _ hl2 (by simp)
    exact ⟨none, w3, hrun3, .nxt, fr, bs, ks1, ms1, L', H', rfl, rfl, hafter L' H' hn hI2, hwf, hc3, hks, hm1, hmr, hr3⟩
  · obtain ⟨x, hx, hl2, hQ2⟩ := hend
    obtain ⟨w3, hrun3, hr3, hc3⟩ := close _ _ hl2 (by simp)
    refine ⟨some x.code, w3, hrun3, ?_⟩
    have hpost : PostW E bs L H w ks ms rd Q x.exit { tmps := rf bs fr, defers := ms1.map mkD } w3 := ⟨x, fr, bs, ks1, ms1, L', H', rfl, rfl, hQ2, hwf, hc3, hks, hm1, hmr, hr3⟩
    cases x with
    | nxt => exact absurd rfl hx
    | ext i => exact wpIn_exit hpost
    | ret => exact wpIn_ret hpost

end Go.SX
