/- Parts of a proof: the symbolic walk and what it shows of single functions. -/
import Derived.Test.YtcnjhgnlcnmagaaDoorX3
set_option linter.all false
/- Loops and ranges whose rounds are hidden from the elaborator's look while what holds of them is opened. -/
namespace Go.SX
open Go.RowKit

theorem loop_constH {σ : Type} {w0 : Base} {B : XSt → St} {Q : XSt} {fr : List SV} {L : List Box} {H : List HO} (H0 : List HO) (hi : HImp w0 H H0) (wr : List (Nat × Nat)) (enc : σ → List (Nat × Value)) (Inv : σ → List HO → Prop) (μ : σ → Nat) (s0 : σ)
    (hfit : fits 0 wr (enc s0) fr fr) (hI : Inv s0 H0) (h : ∀ s H1 g, Inv s H1 → Hid (B (loopQ w0 wr enc (fun _ => L) Inv μ fr L.length (μ s) Q) (hv 0 wr (enc s) g fr) L H1)) : LoopOb w0 B Q fr L H :=
  loop_constI H0 hi wr enc Inv μ s0 hfit hI fun s H1 g hs => (h s H1 g hs).get

theorem loop_boxH {σ : Type} {w0 : Base} {B : XSt → St} {Q : XSt} {fr : List SV} {L : List Box} {H : List HO} (H0 : List HO) (hi : HImp w0 H H0) (wr : List (Nat × Nat)) (enc : σ → List (Nat × Value)) (Lf : σ → List Box) (Inv : σ → List HO → Prop) (μ : σ → Nat) (s0 : σ)
    (hfit : fits 0 wr (enc s0) fr fr) (hL : L = Lf s0) (hlen : ∀ s, (Lf s).length = L.length) (hI : Inv s0 H0) (h : ∀ s H1 g, Inv s H1 → Hid (B (loopQ w0 wr enc Lf Inv μ fr L.length (μ s) Q) (hv 0 wr (enc s) g fr) (Lf s) H1)) : LoopOb w0 B Q fr L H :=
  loop_boxI H0 hi wr enc Lf Inv μ s0 hfit hL hlen hI fun s H1 g hs => (h s H1 g hs).get

/-- As mut; what follows is hidden. -/
theorem CallOb.mutH {P : Program} {w0 : Base} {f : Nat} {args : List Value} {H A B : List HO} {k : Value → List HO → Prop} {Post : Value → List HO → Prop} (hi : HImp w0 H (A ++ B)) (hA : ∀ b, fps A b → fpsx A b) (h : ∀ w, Hp w0 (A ++ B) w → Fn P f args w (fpsx A) Post) (hk : ∀ v N, Post v N → Hid (k v (N ++ B))) : CallOb P w0 false (.fn f) args H k :=
  CallOb.mut hi hA h fun v N hp => (hk v N hp).get

theorem range_introH {P : Program} {w0 : Base} {Ba Bb : XSt → St} {gf : Nat} {first cap : Array Value} {ps : List Tmp} {Q : XSt} {fr : List SV} {L : List Box} {H : List HO} (hT : CallT P gf) (n : Nat) (arg : Nat → List Value → List HO → Prop) (A Hc : List HO) (I : Nat → List Box → List HO → Prop) (Aw Rs : Nat → Prop)
    (hi : HImp w0 H (A ++ Hc)) (hAw : ∀ b, Aw b → fpsx A b) (hRs : ∀ b, Rs b → (b < w0.w.heap.size ∧ ¬ w0.X b) ∨ fpsx A b) (hit : ∀ w, Hp w0 (A ++ Hc) w → Iter P gf first.toList cap.toList n arg Aw Rs w) (h0 : I 0 L Hc) (hl : ∀ k vs F, arg k vs F → vs.length = ps.length)
    (hstep : ∀ k vs F L' H', k < n → arg k vs F → L'.length = L.length → I k L' H' → Hid (Ba (assignQ fun fr2 L2 H2 => Bb (rangeQ w0 L.length (I (k + 1)) Q fr) fr2 L2 H2) (setPs fr ps vs) L' (F ++ H')))
    (hend : ∀ L' H', L'.length = L.length → I n L' H' → Hid (Q .nxt fr L' H')) : RangeOb P w0 Ba Bb (.v (.func (.func gf) first cap)) ps Q fr L H :=
  range_introA hT n arg A Hc I Aw Rs hi hAw hRs hit h0 hl (fun k vs F L' H' a b c d => (hstep k vs F L' H' a b c d).get) fun L' H' a b => (hend L' H' a b).get

end Go.SX

/- More rules for the walk: a cut whose two parts are hidden. -/
namespace Go.SX
open Go.RowKit

theorem cut_constH {σ : Type} {w0 : Base} {B : XSt → St} {K : St} {Q : XSt} {fr : List SV} {L : List Box} {H : List HO} (wr : List (Nat × Nat)) (enc : σ → List (Nat × Value)) (Inv : σ → List HO → Prop)
    (hB : Hid (B (cutQ w0 wr enc (fun _ => L) Inv fr L.length Q) fr L H)) (hK : ∀ s H1 g, Inv s H1 → Hid (K (hv 0 wr (enc s) g fr) L H1)) : hold (CutOb w0 B K Q fr L H) ⟨0⟩ :=
  cut_const wr enc Inv hB.get fun s H1 g h => (hK s H1 g h).get

end Go.SX

