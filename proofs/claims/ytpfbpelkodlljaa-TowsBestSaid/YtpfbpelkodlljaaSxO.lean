/- Iterators: their contract from their walk; a call of yield. -/
import Derived.Test.YtpfbpelkodlljaaSxN
set_option linter.all false
namespace Go.SX
open Go.RowKit

/-- The consumer, as a fact. -/
abbrev consu (J : Option Nat → (Nat → Prop) → (Nat → Prop) → World → Prop) (st : Option Nat) (C R : Nat → Prop) : HO := .any C R (J st C R)

theorem CallOb.yield {P : Program} {l n : Nat} {arg : Nat → List Value → List HO → Prop} {ws : World} {C0 A : Nat → Prop} {J : Option Nat → (Nat → Prop) → (Nat → Prop) → World → Prop} (hH : Handler P l n arg ws C0 A J)
    {k : Nat} {C R : Nat → Prop} {vs : List Value} {H F B : List HO} {kont : Value → List HO → Prop} (hk : k < n)
    (hi : HImp ⟨ws, fun b => C0 b ∨ A b⟩ H (consu J (some k) C R :: B)) (hF : F.Sublist B) (harg : arg k vs F) (hFx : ∀ h ∈ F, ∀ b, ¬ h.fpx b) (hFn : ∀ w, Hp ⟨ws, fun b => C0 b ∨ A b⟩ H w → ∀ b, fps F b → ws.heap.size ≤ b)
    (hy : ∀ t C2 R2, kont (.bool t) (consu J (bif t then some (k + 1) else none) C2 R2 :: B)) : CallOb P ⟨ws, fun b => C0 b ∨ A b⟩ false (.yield l) vs H kont := by
  intro w hp0
  have hp := (hi w hp0).1
  have hnd := List.pairwise_cons.1 hp.nd
  have hc := hp.ok (consu J (some k) C R) List.mem_cons_self
  have hB : ∀ h ∈ B, h.ok w := fun h hh => hp.ok h (List.mem_cons_of_mem _ hh)
  have hFC : ∀ b, fps F b → ¬ C b ∧ ws.heap.size ≤ b := fun b hb => ⟨fun hC => by
    obtain ⟨g, hg, hgb⟩ := hb
    exact (hnd.1 g (hF.subset hg) b (.inl hC) hgb).1 hC, hFn w hp0 b hb⟩
  obtain ⟨fn, tmps, assign, body, hrun, hround⟩ := hH.step k C R vs F w hk hc.1 harg (fun h hh => hB h (hF.subset hh)) hFx hFC (hnd.2.sublist hF) hp.ext
  refine ⟨fn, tmps, assign, body, hrun, RoundIn.mono hround ?_⟩
  rintro e w2 ⟨t, C2, R2, rfl, hkeep, hC2, hR2, hJ⟩
  have hlt : ∀ h ∈ B, ∀ b, h.fp b → b < w.heap.size := fun h hh b hb => HO.lt (hB h hh) hb
  have hBC : ∀ h ∈ B, ∀ b, h.fp b → ¬ C b := fun h hh b hb hC => (hnd.1 h hh b (.inl hC) hb).1 hC
  have upx : ∀ b, C b → fpsx H b := fun b hb => (hi w hp0).2.2 b ⟨_, List.mem_cons_self, hb⟩
  have upr : ∀ b, R b → fps H b := fun b hb => (hi w hp0).2.1 b ⟨_, List.mem_cons_self, .inr hb⟩
  have upB : ∀ h ∈ B, ∀ b, h.fp b → fps H b := fun h hh b hb => (hi w hp0).2.1 b ⟨h, List.mem_cons_of_mem _ hh, hb⟩
  have upBx : ∀ h ∈ B, ∀ b, h.fpx b → fpsx H b := fun h hh b hb => (hi w hp0).2.2 b ⟨h, List.mem_cons_of_mem _ hh, hb⟩
  have hBs : ∀ h ∈ B, SameOn h.fp w w2 := fun h hh => hkeep.sameOn (hlt h hh) (hBC h hh)
  have hfp2 : ∀ b, C2 b ∨ R2 b → fps H b ∨ w.heap.size ≤ b := fun b hb => by
    rcases hb with hb | hb
    · rcases hC2 b hb with x | x
      · exact .inl (fps_of_fpsx (upx b x))
      · exact .inr x
    · rcases hR2 b hb with x | ⟨g, hg, x⟩ | x | x
      · exact .inl (upr b x)
      · exact .inl (upB g (hF.subset hg) b x)
      · exact .inl (fps_of_fpsx (upx b x))
      · exact .inr x
  refine ⟨_, C, consu J (bif t then some (k + 1) else none) C2 R2 :: B, rfl, hkeep, upx, ⟨hkeep.into hp.ext fun b hb => hp.old _ List.mem_cons_self b hb, fun h hh => ?_, fun h hh b hb => ?_, List.pairwise_cons.2 ⟨fun h hh b hb hb' => ?_, hnd.2⟩⟩, fun h hh b => ⟨fun hb => ?_, fun hb => ?_⟩, (fun h => by cases h), hy t C2 R2⟩
  · rcases List.mem_cons.1 hh with rfl | hh
    · exact ⟨hJ, hH.lt _ _ _ _ hJ, fun w1 w2 hs hl hj => hH.stable _ _ _ _ _ hs hl hj⟩
    · exact HO.stable (hB h hh) (hBs h hh)
  · rcases List.mem_cons.1 hh with rfl | hh
    · rcases hC2 b hb with x | x
      · exact hp.old _ List.mem_cons_self b x
      · exact .inr (Nat.le_trans hp.ext.size x)
    · exact hp.old h (List.mem_cons_of_mem _ hh) b hb
  · have hltb := hlt h hh b hb'
    have hnc := hBC h hh b hb'
    have h1 : ¬ C2 b := fun x => by
      rcases hC2 b x with x | x
      · exact hnc x
      · omega
    refine ⟨h1, fun hx => ?_⟩
    rcases hb with x | x
    · exact h1 x
    · rcases hR2 b x with x | ⟨g, hg, x⟩ | x | x
      · exact (hnd.1 h hh b (.inr x) hb').2 hx
      · rcases List.mem_iff_getElem.1 hh with ⟨i, hi', rfl⟩
        rcases List.mem_iff_getElem.1 (hF.subset hg) with ⟨j, hj', rfl⟩
        rcases Nat.lt_trichotomy i j with h3 | h3 | h3
        · exact (List.pairwise_iff_getElem.1 hnd.2 i j hi' hj' h3 b hb' x).1 hx
        · subst h3
          exact hFx _ hg b hx
        · exact (List.pairwise_iff_getElem.1 hnd.2 j i hj' hi' h3 b x hb').2 hx
      · exact hnc x
      · omega
  · rcases List.mem_cons.1 hh with rfl | hh
    · exact hfp2 b hb
    · exact .inl (upB h hh b hb)
  · rcases List.mem_cons.1 hh with rfl | hh
    · rcases hC2 b hb with x | x
      · exact .inl (upx b x)
      · exact .inr x
    · exact .inl (upBx h hh b hb)

/-- The consumer, with what it may write and read told against the world at the start. -/
def since (w : World) (C R : Nat → Prop) (J : Option Nat → (Nat → Prop) → (Nat → Prop) → World → Prop) : Option Nat → (Nat → Prop) → (Nat → Prop) → World → Prop := fun st C' R' v =>
  J st C' R' v ∧ (∀ b, C' b → C b ∨ w.heap.size ≤ b) ∧ (∀ b, R' b → R b ∨ C b ∨ w.heap.size ≤ b)

theorem Handler.since {P : Program} {l n : Nat} {arg : Nat → List Value → List HO → Prop} {ws : World} {C0 A : Nat → Prop} {J : Option Nat → (Nat → Prop) → (Nat → Prop) → World → Prop} (C R : Nat → Prop) (h : Handler P l n arg ws C0 A J) : Handler P l n arg ws C0 A (Go.SX.since ws C R J) where
  stable := fun st C' R' w1 w2 hs hl hj => ⟨h.stable st C' R' w1 w2 hs hl hj.1, hj.2⟩
  lt := fun st C' R' w1 hj => h.lt st C' R' w1 hj.1
  step := fun k C' R' vs F w1 hk hj ha hF hFx hFC hFn hkeep => by
    obtain ⟨fn, tmps, assign, body, hrun, hround⟩ := h.step k C' R' vs F w1 hk hj.1 ha hF hFx hFC hFn hkeep
    refine ⟨fn, tmps, assign, body, hrun, RoundIn.mono hround ?_⟩
    rintro e w2 ⟨t, C2, R2, he, hk2, hC2, hR2, hJ⟩
    refine ⟨t, C2, R2, he, hk2, hC2, hR2, hJ, fun b hb => ?_, fun b hb => ?_⟩
    · rcases hC2 b hb with x | x
      · exact hj.2.1 b x
      · exact .inr (Nat.le_trans hkeep.size x)
    · rcases hR2 b hb with x | x | x | x
      · exact hj.2.2 b x
      · exact .inr (.inr (hFC b x).2)
      · exact .inr (hj.2.1 b x)
      · exact .inr (.inr (Nat.le_trans hkeep.size x))

/-- What an iterator hands back. -/
def iterPost (n : Nat) (J : Option Nat → (Nat → Prop) → (Nat → Prop) → World → Prop) : Value → List HO → Prop := fun v N =>
  v = .tuple #[] ∧ ∃ st C R, consu J st C R ∈ N ∧ (st = some n ∨ st = none)

theorem Iter.intro {P : Program} {gf n : Nat} {pre post : List Value} {arg : Nat → List Value → List HO → Prop} {Rs : Nat → Prop} {w : World}
    (h : ∀ l J C R, (∀ b, Rs b → ¬ C b) → Handler P l n arg w C (fun _ => False) J → HO.ok w (consu J (some 0) C R) →
      Calls P gf (pre ++ [Value.func (.yield l) #[] #[]] ++ post).toArray w fun e w' => ∃ v N, e = .returned v ∧ Keep (fun b => C b ∨ False) w w' ∧ (∀ h ∈ N, h.ok w') ∧ (∀ h ∈ N, ∀ b, (h.fp b → (C b ∨ R b) ∨ w.heap.size ≤ b) ∧ (h.fpx b → (C b ∨ False) ∨ w.heap.size ≤ b)) ∧ N.Pairwise Apart ∧ iterPost n J v N) :
    Iter P gf pre post n arg (fun _ => False) Rs w := by
  intro l J C R hH hJ _ hRs
  have hJ' : Go.SX.since w C R J (some 0) C R w := ⟨hJ, fun b hb => .inl hb, fun b hb => .inl hb⟩
  refine Calls.mono (h l _ C R hRs (hH.since C R) ⟨hJ', (hH.since C R).lt _ _ _ _ hJ', fun w1 w2 hs hl hj => (hH.since C R).stable _ _ _ _ _ hs hl hj⟩) ?_
  rintro e w' ⟨v, N, rfl, hk, hok, hfp, hn, rfl, st, C2, R2, hm, hst⟩
  have := hok _ hm
  exact ⟨st, C2, R2, rfl, hk, this.1.2.1, this.1.2.2, hst, this.1.1⟩

theorem sxo : (∀ (k : IntKind) (n : Int), Value.oneCell' (.int k n) = true) ∧ (∀ b : Bool, Value.oneCell' (.bool b) = true) ∧ (∀ (a : Option Addr) (n m : Nat), Value.oneCell' (.slice a n m) = true) ∧ (∀ s : ByteArray, Value.oneCell' (.string s) = true) ∧
    (∀ a : Option Addr, Value.oneCell' (.pointer a) = true) ∧ (∀ a : Option Nat, Value.oneCell' (.map a) = true) ∧ (∀ (f : Go.Fn) (a b : Array Value), Value.oneCell' (.func f a b) = true) ∧ Value.oneCell' .nilFunc = true :=
  ⟨fun _ _ => rfl, fun _ => rfl, fun _ _ _ => rfl, fun _ => rfl, fun _ => rfl, fun _ => rfl, fun _ _ _ => rfl, rfl⟩

/-- 'if' on a Bool that is settled. As parts of one theorem, so that simp does not take them for definitional: the kernel would unfold the walk of what follows. -/
theorem sxc : (∀ (α : Type) (a b : α), (bif true then a else b) = a) ∧ (∀ (α : Type) (a b : α), (bif false then a else b) = b) := ⟨fun _ _ _ => rfl, fun _ _ _ => rfl⟩

/-- A range over a function. A: facts that are kept for the iterator (what it reads of new memory); Rs: the blocks that it reads. -/
theorem range_introR {P : Program} {w0 : Base} {Ba Bb : XSt → St} {gf : Nat} {first cap : Array Value} {ps : List Tmp} {Q : XSt} {fr : List SV} {L : List Box} {H : List HO} (hT : CallT P gf) (n : Nat) (arg : Nat → List Value → List HO → Prop) (A Hc : List HO) (I : Nat → List Box → List HO → Prop) (Rs : Nat → Prop)
    (hi : HImp w0 H (A ++ Hc)) (hRs : ∀ b, Rs b → (b < w0.w.heap.size ∧ ¬ w0.X b) ∨ fpsx A b) (hit : ∀ w, Hp w0 (A ++ Hc) w → Iter P gf first.toList cap.toList n arg (fun _ => False) Rs w) (h0 : I 0 L Hc) (hl : ∀ k vs F, arg k vs F → vs.length = ps.length)
    (hstep : ∀ k vs F L' H', k < n → arg k vs F → L'.length = L.length → I k L' H' → Ba (assignQ fun fr2 L2 H2 => Bb (rangeQ w0 L.length (I (k + 1)) Q fr) fr2 L2 H2) (setPs fr ps vs) L' (F ++ H'))
    (hend : ∀ L' H', L'.length = L.length → I n L' H' → Q .nxt fr L' H') : RangeOb P w0 Ba Bb (.v (.func (.func gf) first cap)) ps Q fr L H :=
  ⟨hT, n, arg, A, Hc, I, fun _ => False, Rs, hi, fun _ h => h.elim, hRs, hit, h0, hl, hstep, hend⟩

theorem range_intro {P : Program} {w0 : Base} {Ba Bb : XSt → St} {gf : Nat} {first cap : Array Value} {ps : List Tmp} {Q : XSt} {fr : List SV} {L : List Box} {H : List HO} (hT : CallT P gf) (n : Nat) (arg : Nat → List Value → List HO → Prop) (Hc : List HO) (I : Nat → List Box → List HO → Prop)
    (hi : HImp w0 H Hc) (hit : ∀ w, Hp w0 Hc w → Iter P gf first.toList cap.toList n arg (fun _ => False) (fun _ => False) w) (h0 : I 0 L Hc) (hl : ∀ k vs F, arg k vs F → vs.length = ps.length)
    (hstep : ∀ k vs F L' H', k < n → arg k vs F → L'.length = L.length → I k L' H' → Ba (assignQ fun fr2 L2 H2 => Bb (rangeQ w0 L.length (I (k + 1)) Q fr) fr2 L2 H2) (setPs fr ps vs) L' (F ++ H'))
    (hend : ∀ L' H', L'.length = L.length → I n L' H' → Q .nxt fr L' H') : RangeOb P w0 Ba Bb (.v (.func (.func gf) first cap)) ps Q fr L H :=
  range_introR hT n arg [] Hc I _ hi (fun _ h => h.elim) hit h0 hl hstep hend

/-- A loop that leaves the boxes as they are. -/
theorem loop_const {σ : Type} {w0 : Base} {B : XSt → St} {Q : XSt} {fr : List SV} {L : List Box} {H : List HO} (wr : List (Nat × Nat)) (enc : σ → List (Nat × Value)) (Inv : σ → List HO → Prop) (μ : σ → Nat) (s0 : σ)
    (hfit : fits 0 wr (enc s0) fr fr) (hI : Inv s0 H) (h : ∀ s H1 g, Inv s H1 → B (loopQ w0 wr enc (fun _ => L) Inv μ fr L.length (μ s) Q) (hv 0 wr (enc s) g fr) L H1) : LoopOb w0 B Q fr L H :=
  ⟨σ, wr, enc, fun _ => L, Inv, μ, s0, H, hfit, rfl, fun _ => rfl, HImp.refl _ _, hI, h⟩

/-- A loop that turns boxes. -/
theorem loop_box {σ : Type} {w0 : Base} {B : XSt → St} {Q : XSt} {fr : List SV} {L : List Box} {H : List HO} (wr : List (Nat × Nat)) (enc : σ → List (Nat × Value)) (Lf : σ → List Box) (Inv : σ → List HO → Prop) (μ : σ → Nat) (s0 : σ)
    (hfit : fits 0 wr (enc s0) fr fr) (hL : L = Lf s0) (hlen : ∀ s, (Lf s).length = L.length) (hI : Inv s0 H) (h : ∀ s H1 g, Inv s H1 → B (loopQ w0 wr enc Lf Inv μ fr L.length (μ s) Q) (hv 0 wr (enc s) g fr) (Lf s) H1) : LoopOb w0 B Q fr L H :=
  ⟨σ, wr, enc, Lf, Inv, μ, s0, H, hfit, hL, hlen, HImp.refl _ _, hI, h⟩

/-- A loop that leaves the boxes as they are, its facts said in other words first. -/
theorem loop_constI {σ : Type} {w0 : Base} {B : XSt → St} {Q : XSt} {fr : List SV} {L : List Box} {H : List HO} (H0 : List HO) (hi : HImp w0 H H0) (wr : List (Nat × Nat)) (enc : σ → List (Nat × Value)) (Inv : σ → List HO → Prop) (μ : σ → Nat) (s0 : σ)
    (hfit : fits 0 wr (enc s0) fr fr) (hI : Inv s0 H0) (h : ∀ s H1 g, Inv s H1 → B (loopQ w0 wr enc (fun _ => L) Inv μ fr L.length (μ s) Q) (hv 0 wr (enc s) g fr) L H1) : LoopOb w0 B Q fr L H :=
  ⟨σ, wr, enc, fun _ => L, Inv, μ, s0, H0, hfit, rfl, fun _ => rfl, hi, hI, h⟩

theorem loop_boxI {σ : Type} {w0 : Base} {B : XSt → St} {Q : XSt} {fr : List SV} {L : List Box} {H : List HO} (H0 : List HO) (hi : HImp w0 H H0) (wr : List (Nat × Nat)) (enc : σ → List (Nat × Value)) (Lf : σ → List Box) (Inv : σ → List HO → Prop) (μ : σ → Nat) (s0 : σ)
    (hfit : fits 0 wr (enc s0) fr fr) (hL : L = Lf s0) (hlen : ∀ s, (Lf s).length = L.length) (hI : Inv s0 H0) (h : ∀ s H1 g, Inv s H1 → B (loopQ w0 wr enc Lf Inv μ fr L.length (μ s) Q) (hv 0 wr (enc s) g fr) (Lf s) H1) : LoopOb w0 B Q fr L H :=
  ⟨σ, wr, enc, Lf, Inv, μ, s0, H0, hfit, hL, hlen, hi, hI, h⟩

/-- A cut: what the slots hold, and the facts, are told; the boxes are as Lf says. -/
theorem cut_box {σ : Type} {w0 : Base} {B : XSt → St} {K : St} {Q : XSt} {fr : List SV} {L : List Box} {H : List HO} (wr : List (Nat × Nat)) (enc : σ → List (Nat × Value)) (Lf : σ → List Box) (Inv : σ → List HO → Prop)
    (hlen : ∀ s, (Lf s).length = L.length) (hB : B (cutQ w0 wr enc Lf Inv fr L.length Q) fr L H) (hK : ∀ s H1 g, Inv s H1 → K (hv 0 wr (enc s) g fr) (Lf s) H1) : hold (CutOb w0 B K Q fr L H) ⟨0⟩ :=
  ⟨σ, wr, enc, Lf, Inv, hlen, hB, hK⟩

/-- A cut that leaves the boxes as they are. -/
theorem cut_const {σ : Type} {w0 : Base} {B : XSt → St} {K : St} {Q : XSt} {fr : List SV} {L : List Box} {H : List HO} (wr : List (Nat × Nat)) (enc : σ → List (Nat × Value)) (Inv : σ → List HO → Prop)
    (hB : B (cutQ w0 wr enc (fun _ => L) Inv fr L.length Q) fr L H) (hK : ∀ s H1 g, Inv s H1 → K (hv 0 wr (enc s) g fr) L H1) : hold (CutOb w0 B K Q fr L H) ⟨0⟩ :=
  ⟨σ, wr, enc, fun _ => L, Inv, fun _ => rfl, hB, hK⟩

end Go.SX
