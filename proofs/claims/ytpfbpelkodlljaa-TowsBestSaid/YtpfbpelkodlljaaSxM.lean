/- A function's contract from its walk; a call from a contract; reading slices. -/
import Derived.Test.YtpfbpelkodlljaaSxL
set_option linter.all false
namespace Go.SX
open Go.RowKit

theorem rf_init (bs : Nat → Nat) (args : List Value) (n : Nat) : rf bs (initF args n) = args.toArray ++ Array.replicate (n - args.toArray.size) undef := by
  apply Array.ext'
  simp [rf, initF, SV.real, Function.comp_def]

theorem initF_wf (n : Nat) (args : List Value) (m : Nat) : WfFr n (initF args m) := fun s hs => by
  simp only [initF, List.mem_append, List.mem_map, List.mem_replicate] at hs
  rcases hs with ⟨v, _, rfl⟩ | ⟨_, rfl⟩ <;> trivial

theorem marks_leave {E : Env} {fn : Func} {bs : Nat → Nat} {fr : List SV} {L : List Box} {H : List HO} {Post : Value → List HO → Prop} {R : Ending → World → Prop}
    (hres : resK E fn.results.toList fr L H fun vs => Post (tupV vs) H) (hR : ∀ v w', Post v H → Hp E.w0 H w' → R (.returned v) w') :
    ∀ (ms : List Nat) (w : World), Rel E.w0 bs (ms.map fun r => (r, Obj.deferred (some []))) L H w → ms.Nodup → LeavesInM Fence.wide 0 E.P fn (rf bs fr) R (ms.map mkD) .returning w
  | [], w, r, _ => by
    obtain ⟨vs, hp, hrun⟩ := results_eq r fn hres
    exact ⟨_, hrun, hR _ _ hp r.hp⟩
  | m :: ms, w, r, hn => by
    have hm := r.kok (m, .deferred (some [])) (by simp)
    have hnd := List.nodup_cons.1 hn
    have r2 := (r.dropK (ks' := ms.map fun r => (r, Obj.deferred (some []))) fun x hx => List.mem_cons_of_mem _ hx).putK (o := .deferred none) (lt_of_heap hm) (r.kold (m, _) (by simp)) (r.kb (m, .deferred (some [])) (by simp)) (r.kh (m, .deferred (some [])) (by simp)) (fun x hx e => by
      simp only [List.mem_map] at hx
      obtain ⟨y, hy, rfl⟩ := hx
      subst e
      exact hnd.1 hy)
    refine ⟨by simp, .inl ⟨m, _, rfl, run_takeDeferred hm, ?_⟩⟩
    exact marks_leave hres hR ms _ (r2.dropK fun x hx => List.mem_cons_of_mem _ hx) hnd.2

/-- What a walked function does. Z: the blocks that the facts at its start speak of. -/
theorem Fn.introZ {E : Env} {f : Nat} {fn : Func} {c : Code} {args : List Value} {Post : Value → List HO → Prop} (Z : Nat → Prop) (hf : E.P.funcs[f]? = some fn) (hb : fn.body = some c) (hE : E.Fine) (hD : E.DetOk) (hM : E.Mixed) (hok : codeB E.ord c = true) {H0 : List HO}
    (h0 : (∀ h ∈ H0, h.ok E.w0.w) ∧ (∀ h ∈ H0, ∀ b, (h.fp b → Z b) ∧ (h.fpx b → E.w0.X b)) ∧ H0.Pairwise Apart) (h : W E c (retQ E fn.results.toList Post) (initF args fn.ntmps) [] H0) :
    Calls E.P f args.toArray E.w0.w fun e w' => ∃ v N, e = .returned v ∧ Keep E.w0.X E.w0.w w' ∧ (∀ h ∈ N, h.ok w') ∧ (∀ h ∈ N, ∀ b, (h.fp b → Z b ∨ E.w0.w.heap.size ≤ b) ∧ (h.fpx b → E.w0.X b ∨ E.w0.w.heap.size ≤ b)) ∧ N.Pairwise Apart ∧ Post v N := by
  have hw := W_sound hE hD hM c _ _ _ _ hok h
  have r0 : Rel E.w0 (fun _ => 0) [] [] H0 E.w0.w := ⟨⟨Keep.refl _ _, h0.1, fun h hh b hb => .inl ((h0.2.1 h hh b).2 hb), h0.2.2⟩, fun j T cs hj => by simp at hj, fun j hj => by simp at hj, fun i j hi => by simp at hi, fun j hj => by simp at hj, fun x hx => (by cases hx), fun x hx => (by cases hx), fun x hx => (by cases hx), fun x hx => (by cases hx)⟩
  have hwp := hw none (fun _ => 0) [] [] E.w0.w r0 (initF_wf _ _ _) ⟨List.nodup_nil, fun x hx => (by cases hx)⟩ (fun l hl => by cases hl)
  rw [rf_init] at hwp
  refine (callsIn_wide (n := 0)).1 (callsIn_of_wp_marks hf hb trivial ?_ rfl)
  refine wpIn_mono hwp fun e a w' hp => ?_
  obtain ⟨x, fr', bs', ks', ms', L', H', rfl, rfl, hq, hf', hc, hks, hm, _, hr⟩ := hp
  have hz : ∀ h ∈ H', ∀ b, h.fp b → Z b ∨ E.w0.w.heap.size ≤ b := fun h hh b hb => by
    rcases hc.frm.fp b ⟨h, hh, hb⟩ with ⟨g, hg, hgb⟩ | x
    · exact .inl ((h0.2.1 g hg b).1 hgb)
    · exact .inr x
  have key : ∀ (hres : resK E fn.results.toList fr' L' H' fun vs => Post (tupV vs) H'), LeavesInM Fence.wide 0 E.P fn (rf bs' fr') _ (ms'.map mkD) .returning w' := fun hres =>
    marks_leave (R := fun e w' => ∃ v N, e = .returned v ∧ Keep E.w0.X E.w0.w w' ∧ (∀ h ∈ N, h.ok w') ∧ (∀ h ∈ N, ∀ b, (h.fp b → Z b ∨ E.w0.w.heap.size ≤ b) ∧ (h.fpx b → E.w0.X b ∨ E.w0.w.heap.size ≤ b)) ∧ N.Pairwise Apart ∧ Post v N) hres
      (fun v w'' hp hh => ⟨v, H', rfl, hh.ext, hh.ok, fun h hm b => ⟨hz h hm b, hh.old h hm b⟩, hh.nd, hp⟩) ms' w' (hr.dropK fun x hx => by
        simp only [List.mem_map] at hx
        obtain ⟨y, hy, rfl⟩ := hx
        exact hm.2 y hy) hm.1
  cases x with
  | nxt => exact key hq
  | ret => exact key hq
  | ext i => exact hq.elim

/-- A function's contract, from the walk of its body. -/
theorem Fn.intro {E : Env} {f : Nat} {fn : Func} {c : Code} {args : List Value} {Post : Value → List HO → Prop} (hf : E.P.funcs[f]? = some fn) (hb : fn.body = some c) (hE : E.Fine) (hD : E.DetOk) (hM : E.Mixed) (hok : codeB E.ord c = true) {H0 : List HO}
    (h0 : (∀ h ∈ H0, h.ok E.w0.w) ∧ (∀ h ∈ H0, ∀ b, h.fp b → E.w0.X b) ∧ H0.Pairwise Apart) (h : W E c (retQ E fn.results.toList Post) (initF args fn.ntmps) [] H0) : Fn E.P f args E.w0.w E.w0.X Post :=
  Calls.mono (Fn.introZ E.w0.X hf hb hE hD hM hok ⟨h0.1, fun g hg b => ⟨h0.2.1 g hg b, fun x => h0.2.1 g hg b (HO.fp_of_fpx x)⟩, h0.2.2⟩ h)
    fun e w' ⟨v, N, he, hk, ho, hz, hn, hp⟩ => ⟨v, N, he, hk, ho, fun g hg b => (hz g hg b).1, hn, hp⟩

theorem Fn.mono {P : Program} {f : Nat} {args : List Value} {w : World} {X : Nat → Prop} {Post Post' : Value → List HO → Prop} (h : Fn P f args w X Post) (hp : ∀ v N, Post v N → Post' v N) : Fn P f args w X Post' :=
  Calls.mono h fun _e _w' ⟨v, N, a, b, c, d, e', p⟩ => ⟨v, N, a, b, c, d, e', hp v N p⟩

/-- A call of a function that writes nothing that was there. -/
theorem CallOb.pure {P : Program} {w0 : Base} {dr : Bool} {f : Nat} {args : List Value} {H : List HO} {k : Value → List HO → Prop} {Post : Value → List HO → Prop} (h : ∀ w, Hp w0 H w → Fn P f args w (fun _ => False) Post) (hk : ∀ v N, Post v N → k v (N ++ H)) : CallOb P w0 dr (.fn f) args H k := by
  intro w hp
  refine Calls.mono (h w hp) fun e w' he => ?_
  obtain ⟨v, N, rfl, hkeep, hok, hold, hnd, hpost⟩ := he
  have hp' := hp.keep hkeep
  have hnew : ∀ h ∈ N, ∀ b, h.fp b → w.heap.size ≤ b := fun h hh b hb => (hold h hh b hb).resolve_left id
  refine ⟨v, fun _ => False, N ++ H, rfl, hkeep, fun _ h => h.elim, ⟨hp'.ext, fun h hh => ?_, fun h hh b hb => ?_, List.pairwise_append.2 ⟨hnd, hp'.nd, fun h hh h' hh' b hb hb' => ?_⟩⟩, fun h hh b => ⟨fun hb => ?_, fun hb => ?_⟩, fun _ x hx => List.mem_append_right _ hx, hk v N hpost⟩
  · rcases List.mem_append.1 hh with hh | hh
    · exact hok h hh
    · exact hp'.ok h hh
  · rcases List.mem_append.1 hh with hh | hh
    · exact .inr (Nat.le_trans hp.ext.size (hnew h hh b (HO.fp_of_fpx hb)))
    · exact hp'.old h hh b hb
  · have := hnew h hh b hb
    have := HO.lt (hp.ok h' hh') hb'
    omega
  · rcases List.mem_append.1 hh with hh | hh
    · exact .inr (hnew h hh b hb)
    · exact .inl ⟨h, hh, hb⟩
  · rcases List.mem_append.1 hh with hh | hh
    · exact .inr (hnew h hh b (HO.fp_of_fpx hb))
    · exact .inl ⟨h, hh, hb⟩

/-- A call of a function that may write some of the facts' blocks: these facts are said anew. -/
theorem CallOb.mut {P : Program} {w0 : Base} {f : Nat} {args : List Value} {H A B : List HO} {k : Value → List HO → Prop} {Post : Value → List HO → Prop} (hi : HImp w0 H (A ++ B)) (hA : ∀ b, fps A b → fpsx A b) (h : ∀ w, Hp w0 (A ++ B) w → Fn P f args w (fpsx A) Post) (hk : ∀ v N, Post v N → k v (N ++ B)) : CallOb P w0 false (.fn f) args H k := by
  intro w hp0
  have hp := (hi w hp0).1
  refine Calls.mono (h w hp) fun e w' he => ?_
  obtain ⟨v, N, rfl, hkeep, hok, hold, hnd, hpost⟩ := he
  have hAB := List.pairwise_append.1 hp.nd
  have hup : ∀ b, fpsx A b → fpsx H b := fun b ⟨x, hx, hb⟩ => (hi w hp0).2.2 b ⟨x, by simp [hx], hb⟩
  have hupB : ∀ h ∈ B, ∀ b, h.fp b → fps H b := fun x hx b hb => (hi w hp0).2.1 b ⟨x, by simp [hx], hb⟩
  have hBs : ∀ h ∈ B, SameOn h.fp w w' := fun x hx => hkeep.sameOn (fun b hb => HO.lt (hp.ok x (by simp [hx])) hb) fun b hb ⟨y, hy, hyb⟩ => (hAB.2.2 y hy x hx b (HO.fp_of_fpx hyb) hb).1 hyb
  refine ⟨v, fpsx A, N ++ B, rfl, hkeep, hup, ⟨hkeep.into hp.ext fun b ⟨y, hy, hyb⟩ => hp.old y (by simp [hy]) b hyb, fun h hh => ?_, fun h hh b hb => ?_, List.pairwise_append.2 ⟨hnd, hAB.2.1, fun h hh h' hh' b hb hb' => ?_⟩⟩, fun h hh b => ⟨fun hb => ?_, fun hb => ?_⟩, (fun h => by cases h), hk v N hpost⟩
  · rcases List.mem_append.1 hh with hh | hh
    · exact hok h hh
    · exact HO.stable (hp.ok h (by simp [hh])) (hBs h hh)
  · rcases List.mem_append.1 hh with hh | hh
    · rcases hold h hh b (HO.fp_of_fpx hb) with ⟨y, hy, hyb⟩ | x
      · exact hp.old y (by simp [hy]) b hyb
      · exact .inr (Nat.le_trans hp.ext.size x)
    · exact hp.old h (by simp [hh]) b hb
  · rcases hold h hh b hb with ⟨y, hy, hyb⟩ | x
    · exact absurd hyb (hAB.2.2 y hy h' hh' b (HO.fp_of_fpx hyb) hb').1
    · have := HO.lt (hp.ok h' (by simp [hh'])) hb'
      omega
  · rcases List.mem_append.1 hh with hh | hh
    · rcases hold h hh b hb with x | x
      · exact .inl (fps_of_fpsx (hup b x))
      · exact .inr x
    · exact .inl (hupB h hh b hb)
  · rcases List.mem_append.1 hh with hh | hh
    · rcases hold h hh b (HO.fp_of_fpx hb) with x | x
      · exact .inl (hup b x)
      · exact .inr x
    · exact .inl ((hi w hp0).2.2 b ⟨h, by simp [hh], hb⟩)

/-! ### Slices that are read -/

theorem RowOk.sl {w : World} {v : Value} {E : TypeId} {sz : Nat} {xs : List Value} (h : RowOk w v E sz xs) : Sl w v sz xs := by
  rcases h with ⟨rfl, rfl⟩ | ⟨b, off, len, cap, arr, rfl, hb, hl, _, _, hfit, htake⟩
  · exact ⟨none, 0, 0, rfl, by simp, fun i x hx => by simp at hx⟩
  · refine ⟨_, len, cap, rfl, hl, fun i x hx => ⟨_, rfl, ?_⟩⟩
    rw [add_block, cell_of_cells hb]
    rw [← htake, List.getElem?_take] at hx
    split at hx
    · simpa using hx
    · cases hx

theorem Sl.keep {w w' : World} {X : Nat → Prop} {v : Value} {sz : Nat} {xs : List Value} (h : Sl w v sz xs) (hk : Keep X w w') (hX : ∀ b, v.ownBlock = some b → ¬ X b) : Sl w' v sz xs := by
  obtain ⟨a, len, cap, rfl, hl, hc⟩ := h
  refine ⟨a, len, cap, rfl, hl, fun i x hx => ?_⟩
  obtain ⟨ad, rfl, hcell⟩ := hc i x hx
  refine ⟨ad, rfl, ?_⟩
  have hb := World.block_lt_of_cell? w _ hcell
  have hblk : (ad.add i).block = ad.block := by unfold Addr.add; split <;> rfl
  rw [World.cell?_of_block (w := w) (hk.block _ hb (by rw [hblk]; exact hX _ rfl))]
  exact hcell

theorem add_add (a : Addr) (m n : Nat) : (a.add m).add n = a.add (m + n) := by
  unfold Addr.add
  by_cases h1 : m = 0 <;> by_cases h2 : n = 0 <;> simp [h1, h2] <;> omega

/-- A cell of a slice of old memory. -/
theorem Sl.rd {w0 : Base} {H : List HO} {ad : Addr} {len cap sz : Nat} {xs : List Value} (h : Sl w0.w (.slice (some ad) len cap) sz xs) (hX : ¬ w0.X ad.block) {i : Nat} {v : Value} (hv : xs[i]? = some v) : Rd w0 H (ad.add i) v := by
  obtain ⟨a, len', cap', e, hl, hc⟩ := h
  cases e
  obtain ⟨ad', e, hcell⟩ := hc i v hv
  cases e
  have hblk : (ad.add i).block = ad.block := by unfold Addr.add; split <;> rfl
  exact .inl ⟨hcell, by rw [hblk]; exact hX⟩

/-- A cell of a slice that is owned. -/
theorem row_rd {w0 : Base} {H : List HO} {ad : Addr} {len cap sz : Nat} {E : TypeId} {xs : List Value} (h : HO.row (.slice (some ad) len cap) E sz xs ∈ H) {i : Nat} {v : Value} (hv : xs[i]? = some v) : Rd w0 H (ad.add i) v := by
  refine .inr ⟨_, h, fun w hw => ?_⟩
  obtain ⟨a, len', cap', e, hl, hc⟩ := RowOk.sl (E := E) hw
  cases e
  obtain ⟨ad', e, hcell⟩ := hc i v hv
  cases e
  exact hcell

end Go.SX
