/- Parts of a proof: the symbolic walk and what it shows of single functions. -/
import Derived.Test.YtcnjhgnlcnmagaaDoorC7
set_option linter.all false
namespace Go.Proofs.YtcnjhgnlcnmagaaDoor
open Go.RowKit Go.SX
set_option maxRecDepth 20000
set_option maxHeartbeats 8000000
set_option linter.unusedSimpArgs false
set_option linter.unusedVariables false

/-! ### The reference's near, check, forth -/

/-- A cell and its first neighbours. -/
def nbD (W H k d : Nat) : List Int := nts (k :: besL W H k d)

theorem nbD_len (W H k d : Nat) : (nbD W H k d).length = (besL W H k d).length + 1 := by simp [nbD]

theorem nbD_bd (W H k d : Nat) (hd : d ≤ 6) : (nbD W H k d).length ≤ 7 := by
  have h1 := nbL_len W H k
  obtain ⟨r, hr⟩ := besL_pre W H k d hd
  rw [nbD_len]
  unfold nbL at h1
  rw [List.length_cons, hr, List.length_append] at h1
  omega

theorem rnear_fn (w : World) (hw : Ways w) (v : Value) (c : Cht) (hc : ChOk w v c) (hok : c.ok) (k : Nat) (hk : k < c.depth.length) :
    SX.Fn Tryd.prog 83 [v, I k] w (fun _ => False) fun r N => Got r 3 1 i1 (nts (nbL c.W c.H k)) N := by
  have hD := detR_ok (X := fun _ => False) hw hc (fun _ _ => id)
  obtain ⟨sD, sT, sS, rfl, hsD, hsT, hsS⟩ := hc
  obtain ⟨eW, eH, hW, hH, hlen⟩ := hok.dims
  refine walk [] [] hD Tryd.func83 rfl Tryd.ntmps83 res83 (by kernel_rfl) no_facts ?_
  simp (config := { maxSteps := 4000000 }) only [↓sx0, ↓sx1, ↓sx2, ↓sx3, ↓sx4, ↓sx5, ↓sx6, sx0, sx1, sx2, sx3, sx4, sx5, sx6, tf83, ev3_hold, sxo, sxc, sxp, sxq, sxr, sxs, sxl, sxm, Int.reduceBEq, Int.reduceBNe, Int.reduceLT, Int.reduceLE, Int.reduceEq, Int.reduceGT, Int.reduceGE, Int.reduceToNat, ↓reduceIte, List.reduceReplicate, Nat.reduceAdd, Nat.reduceSub, Nat.reduceMul, Nat.reduceLT, Nat.reduceLeDiff, Nat.reduceBEq, Nat.reduceEqDiff]
  intro b1
  refine loop_constH [HO.row (.slice (some ⟨b1, 0, none⟩) (nbD c.W c.H k 0).length 1) 3 1 (ints (nbD c.W c.H k 0))] (HImp.refl _ _) [(5, 8), (11, 26)] (fun s : Nat × Addr × Nat => [(5, .slice (some s.2.1) (nbD c.W c.H k s.1).length s.2.2), (6, I s.1)])
    (fun s H1 => s.1 ≤ 6 ∧ H1 = [HO.row (.slice (some s.2.1) (nbD c.W c.H k s.1).length s.2.2) 3 1 (ints (nbD c.W c.H k s.1))]) (fun s => 6 - s.1) (0, ⟨b1, 0, none⟩, 1) ?_ ⟨Nat.zero_le _, rfl⟩ ?_
  · simp (config := { maxSteps := 4000000 }) only [↓sx0, ↓sx1, ↓sx2, ↓sx3, ↓sx4, ↓sx5, ↓sx6, sx0, sx1, sx2, sx3, sx4, sx5, sx6, tf83, ev3_hold, sxo, sxc, sxp, sxq, sxr, sxs, sxl, sxm, Int.reduceBEq, Int.reduceBNe, Int.reduceLT, Int.reduceLE, Int.reduceEq, Int.reduceGT, Int.reduceGE, Int.reduceToNat, ↓reduceIte, List.reduceReplicate, Nat.reduceAdd, Nat.reduceSub, Nat.reduceMul, Nat.reduceLT, Nat.reduceLeDiff, Nat.reduceBEq, Nat.reduceEqDiff]
    simp [nbD, besL]
  · rintro ⟨d, ad, cp⟩ H1 g ⟨hd, rfl⟩
    simp only [] at hd
    by_cases hd6 : d = 6
    · subst hd6
      have e7 : (((6 : Nat) : Int) < 6) = False := eq_false (by omega)
      refine ⟨?_⟩
      simp (config := { maxSteps := 4000000 }) only [↓sx0, ↓sx1, ↓sx2, ↓sx3, ↓sx4, ↓sx5, ↓sx6, sx0, sx1, sx2, sx3, sx4, sx5, sx6, tf83, ev3_hold, sxo, sxc, sxp, sxq, sxr, sxs, sxl, sxm, Int.reduceBEq, Int.reduceBNe, Int.reduceLT, Int.reduceLE, Int.reduceEq, Int.reduceGT, Int.reduceGE, Int.reduceToNat, ↓reduceIte, List.reduceReplicate, Nat.reduceAdd, Nat.reduceSub, Nat.reduceMul, Nat.reduceLT, Nat.reduceLeDiff, Nat.reduceBEq, Nat.reduceEqDiff, e7]
      exact Got.row rfl List.mem_cons_self (fun h => by cases h)
    have e7 : ((d : Int) < 6) = True := eq_true (by omega)
    have e8 : IntKind.i64.wrap ((d : Int) + 1) = ((d + 1 : Nat) : Int) := (wrap_id (by omega)).trans (by omega)
    have hb := (detR_beside (.agg #[I c.wide, I c.high, sD, sT, sS]) c hW hH (show k < c.W * c.H by omega) (show d < 6 by omega) sD sT sS).2
    rw [← eW, ← eH] at hb
    have hbs : nbD c.W c.H k (d + 1) = nbD c.W c.H k d ++ nts (bes c.W c.H k d).toList := by
      unfold nbD
      rw [besL_succ]
      simp
    have hbd := nbD_bd c.W c.H k d (by omega)
    unfold besV at hb
    cases hbe : bes c.W c.H k d with
    | none =>
      rw [hbe] at hb hbs
      simp only [Option.toList_none, List.map_nil, List.append_nil] at hb hbs
      refine ⟨?_⟩
      simp (config := { maxSteps := 4000000 }) only [↓sx0, ↓sx1, ↓sx2, ↓sx3, ↓sx4, ↓sx5, ↓sx6, sx0, sx1, sx2, sx3, sx4, sx5, sx6, tf83, ev3_hold, sxo, sxc, sxp, sxq, sxr, sxs, sxl, sxm, Int.reduceBEq, Int.reduceBNe, Int.reduceLT, Int.reduceLE, Int.reduceEq, Int.reduceGT, Int.reduceGE, Int.reduceToNat, ↓reduceIte, List.reduceReplicate, Nat.reduceAdd, Nat.reduceSub, Nat.reduceMul, Nat.reduceLT, Nat.reduceLeDiff, Nat.reduceBEq, Nat.reduceEqDiff, e7, hb, e8]
      refine ⟨(d + 1, ad, cp), _, ?_, HImp.refl _ _, ⟨by omega, ?_⟩, by omega⟩
      · simp only []
        rw [hbs]
        exact ⟨rfl, trivial⟩
      · simp only []
        rw [hbs]
    | some n =>
      rw [hbe] at hb hbs
      simp only [Option.toList_some, List.map_cons, List.map_nil] at hb hbs
      refine ⟨?_⟩
      simp (config := { maxSteps := 4000000 }) only [↓sx0, ↓sx1, ↓sx2, ↓sx3, ↓sx4, ↓sx5, ↓sx6, sx0, sx1, sx2, sx3, sx4, sx5, sx6, tf83, ev3_hold, sxo, sxc, sxp, sxq, sxr, sxs, sxl, sxm, Int.reduceBEq, Int.reduceBNe, Int.reduceLT, Int.reduceLE, Int.reduceEq, Int.reduceGT, Int.reduceGE, Int.reduceToNat, ↓reduceIte, List.reduceReplicate, Nat.reduceAdd, Nat.reduceSub, Nat.reduceMul, Nat.reduceLT, Nat.reduceLeDiff, Nat.reduceBEq, Nat.reduceEqDiff, e7, hb, e8]
      intro b2
      refine app_one (l := nbD c.W c.H k d) (n : Int) (HImp.refl _ _) i1_len i1_one (by omega) fun ad2 c2 => ?_
      simp (config := { maxSteps := 4000000 }) only [↓sx0, ↓sx1, ↓sx2, ↓sx3, ↓sx4, ↓sx5, ↓sx6, sx0, sx1, sx2, sx3, sx4, sx5, sx6, tf83, ev3_hold, sxo, sxc, sxp, sxq, sxr, sxs, sxl, sxm, Int.reduceBEq, Int.reduceBNe, Int.reduceLT, Int.reduceLE, Int.reduceEq, Int.reduceGT, Int.reduceGE, Int.reduceToNat, ↓reduceIte, List.reduceReplicate, Nat.reduceAdd, Nat.reduceSub, Nat.reduceMul, Nat.reduceLT, Nat.reduceLeDiff, Nat.reduceBEq, Nat.reduceEqDiff, e8]
      refine ⟨(d + 1, ad2, c2), _, ?_, HImp.refl _ _, ⟨by omega, ?_⟩, by omega⟩
      · simp only []
        rw [hbs, List.length_append]
        exact ⟨rfl, trivial⟩
      · simp only []
        rw [hbs, List.length_append]
        rfl

theorem rchk_fn (w : World) (hw : Ways w) (v : Value) (c : Cht) (hc : ChOk w v c) (hsm : c.small) (g k t : Int) :
    SX.Fn Tryd.prog 81 [v, I g, I k, I t] w (fun _ => False) fun r N => r = I (openE c [k] [t] [g]) := by
  have hc0 := hc
  obtain ⟨sD, sT, sS, rfl, hsD, hsT, hsS⟩ := hc
  refine walk [] [] (det0_ok _ _) Tryd.func81 rfl Tryd.ntmps81 res81 (by kernel_rfl) no_facts ?_
  simp (config := { maxSteps := 4000000 }) only [↓sx0, ↓sx1, ↓sx2, ↓sx3, ↓sx4, ↓sx5, ↓sx6, sx0, sx1, sx2, sx3, sx4, sx5, sx6, tf81, ev3_hold, sxo, sxc, sxp, sxq, sxr, sxs, sxl, sxm, Int.reduceBEq, Int.reduceBNe, Int.reduceLT, Int.reduceLE, Int.reduceEq, Int.reduceGT, Int.reduceGE, Int.reduceToNat, ↓reduceIte, List.reduceReplicate, Nat.reduceAdd, Nat.reduceSub, Nat.reduceMul, Nat.reduceLT, Nat.reduceLeDiff, Nat.reduceBEq, Nat.reduceEqDiff, det0]
  refine CallOb.pureH (fun w' hp => rfloats_fn w' (hw.hp hp) _ c (hc0.hp hp) hsm g k t) ?_
  intro r N hr
  unfold floatsV at hr
  by_cases he : openE c [k] [t] [g] = 0
  · rw [if_pos he] at hr
    subst hr
    refine ⟨?_⟩
    simp (config := { maxSteps := 4000000 }) only [↓sx0, ↓sx1, ↓sx2, ↓sx3, ↓sx4, ↓sx5, ↓sx6, sx0, sx1, sx2, sx3, sx4, sx5, sx6, tf81, ev3_hold, sxo, sxc, sxp, sxq, sxr, sxs, sxl, sxm, Int.reduceBEq, Int.reduceBNe, Int.reduceLT, Int.reduceLE, Int.reduceEq, Int.reduceGT, Int.reduceGE, Int.reduceToNat, ↓reduceIte, List.reduceReplicate, Nat.reduceAdd, Nat.reduceSub, Nat.reduceMul, Nat.reduceLT, Nat.reduceLeDiff, Nat.reduceBEq, Nat.reduceEqDiff]
    rw [he]
  · rw [if_neg he] at hr
    subst hr
    refine ⟨?_⟩
    simp (config := { maxSteps := 4000000 }) only [↓sx0, ↓sx1, ↓sx2, ↓sx3, ↓sx4, ↓sx5, ↓sx6, sx0, sx1, sx2, sx3, sx4, sx5, sx6, tf81, ev3_hold, sxo, sxc, sxp, sxq, sxr, sxs, sxl, sxm, Int.reduceBEq, Int.reduceBNe, Int.reduceLT, Int.reduceLE, Int.reduceEq, Int.reduceGT, Int.reduceGE, Int.reduceToNat, ↓reduceIte, List.reduceReplicate, Nat.reduceAdd, Nat.reduceSub, Nat.reduceMul, Nat.reduceLT, Nat.reduceLeDiff, Nat.reduceBEq, Nat.reduceEqDiff]

end Go.Proofs.YtcnjhgnlcnmagaaDoor

namespace Go.Proofs.YtcnjhgnlcnmagaaDoor
open Go.RowKit Go.SX
set_option maxRecDepth 20000
set_option maxHeartbeats 8000000
set_option linter.unusedSimpArgs false
set_option linter.unusedVariables false

/-! ### The reference's forth -/

/-- A row whose first cells are written. -/
def parR (M : List Int) (i : Nat) : List Int := M.take i ++ List.replicate (M.length - i) 0

theorem parR_len (M : List Int) {i : Nat} (h : i ≤ M.length) : (parR M i).length = M.length := by
  unfold parR
  simp
  omega

theorem parR_zero (M : List Int) : parR M 0 = List.replicate M.length 0 := by simp [parR]
theorem parR_end (M : List Int) : parR M M.length = M := by simp [parR]

theorem parR_set (M : List Int) {i : Nat} (h : i < M.length) : (parR M i).set i (lv M i) = parR M (i + 1) := by
  unfold parR
  rw [List.set_append_right _ _ (by simp; omega), List.length_take, Nat.min_eq_left (by omega), Nat.sub_self, show M.length - i = (M.length - (i + 1)) + 1 by omega, List.replicate_succ, List.set_cons_zero, List.take_add_one, getD_at h 0]
  simp [lv]

/-- Over the first neighbours. -/
def fwP (c : Cht) (g : Int) (t i : Nat) (Mp : List Int) (ys : List Nat) (m : Int) : Prop := ∃ y, y ∈ ys ∧ 0 ≤ lv Mp y ∧ c.flt g t i = true ∧ m = lv Mp y + cst y i

theorem fw_skip {c : Cht} {g : Int} {t i : Nat} {Mp : List Int} {ys : List Nat} {y : Nat} {v : Int} (h : Lst (fwP c g t i Mp ys) v) (hn : lv Mp y < 0) : Lst (fwP c g t i Mp (ys ++ [y])) v := by
  refine h.congr fun m => ⟨fun ⟨z, h1, h2⟩ => ⟨z, List.mem_append_left _ h1, h2⟩, fun ⟨z, h1, h2, h3⟩ => ?_⟩
  rcases List.mem_append.1 h1 with h1 | h1
  · exact ⟨z, h1, h2, h3⟩
  · rw [List.mem_singleton] at h1
    subst h1
    omega

theorem fw_more {c : Cht} {g : Int} {t i : Nat} {Mp : List Int} {ys : List Nat} {y : Nat} {v n : Int} (h : Lst (fwP c g t i Mp ys) v) (hn : 0 ≤ lv Mp y) (hf : c.flt g t i = true) (he : n = lv Mp y + cst y i) : Lst (fwP c g t i Mp (ys ++ [y])) (if v = -1 ∨ n < v then n else v) := by
  have hc := cst_bd y i
  refine (h.more (n := n) (by omega)).congr fun m => ?_
  constructor
  · rintro (⟨z, h1, h2⟩ | rfl)
    · exact ⟨z, List.mem_append_left _ h1, h2⟩
    · exact ⟨y, by simp, hn, hf, he⟩
  · rintro ⟨z, h1, h2, h3, h4⟩
    rcases List.mem_append.1 h1 with h1 | h1
    · exact .inl ⟨z, h1, h2, h3, h4⟩
    · rw [List.mem_singleton] at h1
      subst h1
      exact .inr (by omega)

def fwPost (c : Cht) (g : Int) (A T : Nat) (r : Value) (N : List HO) : Prop := ∃ ad cp bs, r = .slice (some ad) (c.tide.length - T) cp ∧ bs.length = c.tide.length - T ∧ HO.row r 22 1 (cat (slN c.depth.length) bs) ∈ N ∧
  ∀ i b, bs[i]? = some b → HO.row (.slice (some ⟨b, 0, none⟩) c.depth.length c.depth.length) 3 1 (ints (mvL c g A T i)) ∈ N

theorem rforth_fn (w : World) (hw : Ways w) (v : Value) (c : Cht) (hc : ChOk w v c) (hok : c.ok) (g : Int) (A T : Nat) (hA : A < c.depth.length) (hT : T < c.tide.length) :
    SX.Fn Tryd.prog 82 [v, I g, I A, I T] w (fun _ => False) (fwPost c g A T) := by
  have hc0 := hc
  have hD := detR_ok (X := fun _ => False) hw hc (fun _ _ => id)
  obtain ⟨sD, sT, sS, rfl, hsD, hsT, hsS⟩ := hc
  obtain ⟨aT, nT, cT, rfl⟩ := hsT.shape
  have hnT := hsT.le spc_len (by omega)
  obtain ⟨eW, eH, hW, hH, hlen⟩ := hok.dims
  have h60 := hok.2.2.2.1.2
  have h144 := Nat.mul_le_mul hW.2 hH.2
  have e6 : IntKind.i64.wrap (c.wide * c.high) = (c.depth.length : Int) := by
    have h1 := hok.2.2.1
    rw [← h1]
    exact wrap_id (by omega)
  generalize hV : (Value.agg #[I c.wide, I c.high, sD, .slice aT nT cT, sS]) = V at hD hc0
  have dn : (∀ xs, detR V c 79 xs = none) ∧ (∀ xs, detR V c 83 xs = none) := ⟨fun _ => rfl, fun _ => rfl⟩
  subst hV
  refine walk [] [] hD Tryd.func82 rfl Tryd.ntmps82 res82 (by kernel_rfl) no_facts ?_
  simp (config := { maxSteps := 4000000 }) only [↓sx0, ↓sx1, ↓sx2, ↓sx3, ↓sx4, ↓sx5, ↓sx6, sx0, sx1, sx2, sx3, sx4, sx5, sx6, tf82, ev3_hold, sxo, sxc, sxp, sxq, sxr, sxs, sxl, sxm, Int.reduceBEq, Int.reduceBNe, Int.reduceLT, Int.reduceLE, Int.reduceEq, Int.reduceGT, Int.reduceGE, Int.reduceToNat, ↓reduceIte, List.reduceReplicate, Nat.reduceAdd, Nat.reduceSub, Nat.reduceMul, Nat.reduceLT, Nat.reduceLeDiff, Nat.reduceBEq, Nat.reduceEqDiff, dn]
  generalize hRR : (fun (ad : Option Addr) (j cp : Nat) (bs : List Nat) => HO.row (.slice ad j cp) 22 1 (cat (slN c.depth.length) bs)) = RR
  have hRe : ∀ ad j cp bs, HO.row (.slice ad j cp) 22 1 (cat (slN c.depth.length) bs) = RR ad j cp bs := fun ad j cp bs => by rw [← hRR]
  generalize hOO : (fun (b : Nat) (l : List Int) => HO.row (.slice (some ⟨b, 0, none⟩) c.depth.length c.depth.length) 3 1 (ints l)) = OO
  have hOe : ∀ b l, HO.row (.slice (some ⟨b, 0, none⟩) c.depth.length c.depth.length) 3 1 (ints l) = OO b l := fun b l => by rw [← hOO]
  have hrd : ∀ b (o : List Int), o.length = c.depth.length → ∀ G, OO b o ∈ G → Rdv ⟨w, fun _ => False⟩ G (.slice (some ⟨b, 0, none⟩) c.depth.length c.depth.length) 1 (ints o) := fun b o ho G hG => by
    rw [← hOe] at hG
    exact row_rdv (E := 3) hG ⟨_, _, _, rfl, by rw [cat_len i1_len, ho], fun h => by cases h⟩
  have hat : ∀ (l : List Int) (y : Nat), y < l.length → l[y]? = some (lv l y) := fun l y h => getD_at h 0
  refine loop_constH [RR none 0 0 []] (by rw [← hRe]; exact (HImp.nil _ _).trans (HImp.nilRow _ _ _ _)) [(9, 15), (17, 111)] (fun s : Nat × Option Addr × Nat => [(9, .slice s.2.1 s.1 s.2.2), (10, I ((T + s.1 : Nat) : Int))])
    (fun s H1 => T + s.1 ≤ c.tide.length ∧ ∃ bs ros, H1 = RR s.2.1 s.1 s.2.2 bs :: ros ∧ bs.length = s.1 ∧ (s.2.1 = none → bs = []) ∧ ∀ i b, bs[i]? = some b → OO b (mvL c g A T i) ∈ ros) (fun s => c.tide.length - (T + s.1)) (0, none, 0) ?_ ⟨by omega, [], [], rfl, rfl, fun _ => rfl, by simp⟩ ?_
  · simp (config := { maxSteps := 4000000 }) only [↓sx0, ↓sx1, ↓sx2, ↓sx3, ↓sx4, ↓sx5, ↓sx6, sx0, sx1, sx2, sx3, sx4, sx5, sx6, tf82, ev3_hold, sxo, sxc, sxp, sxq, sxr, sxs, sxl, sxm, Int.reduceBEq, Int.reduceBNe, Int.reduceLT, Int.reduceLE, Int.reduceEq, Int.reduceGT, Int.reduceGE, Int.reduceToNat, ↓reduceIte, List.reduceReplicate, Nat.reduceAdd, Nat.reduceSub, Nat.reduceMul, Nat.reduceLT, Nat.reduceLeDiff, Nat.reduceBEq, Nat.reduceEqDiff]
    simp
  rintro ⟨j, ad, cp⟩ H1 g1 ⟨hj, bs, ros, rfl, hbl, hnil, hros⟩
  simp only [] at hj hbl hnil
  by_cases hjn : T + j = c.tide.length
  · have e7 : (((T + j : Nat) : Int) < (nT : Int)) = False := eq_false (by omega)
    have hadn : ∃ a, ad = some a := by
      cases ad with
      | none =>
        have := hnil rfl
        subst this
        simp at hbl
        omega
      | some a => exact ⟨a, rfl⟩
    obtain ⟨a, rfl⟩ := hadn
    refine ⟨?_⟩
    simp (config := { maxSteps := 4000000 }) only [↓sx0, ↓sx1, ↓sx2, ↓sx3, ↓sx4, ↓sx5, ↓sx6, sx0, sx1, sx2, sx3, sx4, sx5, sx6, tf82, ev3_hold, sxo, sxc, sxp, sxq, sxr, sxs, sxl, sxm, Int.reduceBEq, Int.reduceBNe, Int.reduceLT, Int.reduceLE, Int.reduceEq, Int.reduceGT, Int.reduceGE, Int.reduceToNat, ↓reduceIte, List.reduceReplicate, Nat.reduceAdd, Nat.reduceSub, Nat.reduceMul, Nat.reduceLT, Nat.reduceLeDiff, Nat.reduceBEq, Nat.reduceEqDiff, e7]
    refine ⟨a, cp, bs, ?_, by omega, ?_, ?_⟩
    · rw [show c.tide.length - T = j by omega]
    · rw [hRe]
      exact List.mem_cons_self
    · intro i b hi
      rw [hOe]
      exact List.mem_cons_of_mem _ (hros i b hi)
  have e7 : (((T + j : Nat) : Int) < (nT : Int)) = True := eq_true (by omega)
  have e8 : IntKind.i64.wrap (((T + j : Nat) : Int) + 1) = ((T + (j + 1) : Nat) : Int) := (wrap_id (by omega)).trans (by omega)
  have hMl := mvL_len c g A T j
  generalize hM : mvL c g A T j = M at hMl
  refine ⟨?_⟩
  simp (config := { maxSteps := 4000000 }) only [↓sx0, ↓sx1, ↓sx2, ↓sx3, ↓sx4, ↓sx5, ↓sx6, sx0, sx1, sx2, sx3, sx4, sx5, sx6, tf82, ev3_hold, sxo, sxc, sxp, sxq, sxr, sxs, sxl, sxm, Int.reduceBEq, Int.reduceBNe, Int.reduceLT, Int.reduceLE, Int.reduceEq, Int.reduceGT, Int.reduceGE, Int.reduceToNat, ↓reduceIte, List.reduceReplicate, Nat.reduceAdd, Nat.reduceSub, Nat.reduceMul, Nat.reduceLT, Nat.reduceLeDiff, Nat.reduceBEq, Nat.reduceEqDiff, e7, detR_eq, e6]
  refine ⟨by omega, by omega, by omega, fun b => ?_⟩
  rw [show zerosL c.depth.length [Value.int .i64 0] = ints (List.replicate c.depth.length 0) from zeros_cat i1 0 _, hOe, ← hMl, ← parR_zero, hMl]
  refine loop_constH (OO b (parR M 0) :: RR ad j cp bs :: ros) (HImp.refl _ _) [(12, 15), (27, 107)] (fun i : Nat => [(12, I i)]) (fun i H1 => i ≤ c.depth.length ∧ H1 = OO b (parR M i) :: RR ad j cp bs :: ros) (fun i => c.depth.length - i) 0 ?_ ⟨Nat.zero_le _, rfl⟩ ?_
  · simp (config := { maxSteps := 4000000 }) only [↓sx0, ↓sx1, ↓sx2, ↓sx3, ↓sx4, ↓sx5, ↓sx6, sx0, sx1, sx2, sx3, sx4, sx5, sx6, tf82, ev3_hold, sxo, sxc, sxp, sxq, sxr, sxs, sxl, sxm, Int.reduceBEq, Int.reduceBNe, Int.reduceLT, Int.reduceLE, Int.reduceEq, Int.reduceGT, Int.reduceGE, Int.reduceToNat, ↓reduceIte, List.reduceReplicate, Nat.reduceAdd, Nat.reduceSub, Nat.reduceMul, Nat.reduceLT, Nat.reduceLeDiff, Nat.reduceBEq, Nat.reduceEqDiff]
    simp
  rintro i H1 g2 ⟨hi, rfl⟩
  by_cases hin : i = c.depth.length
  · have f7 : ((i : Int) < (c.depth.length : Int)) = False := eq_false (by omega)
    refine ⟨?_⟩
    simp (config := { maxSteps := 4000000 }) only [↓sx0, ↓sx1, ↓sx2, ↓sx3, ↓sx4, ↓sx5, ↓sx6, sx0, sx1, sx2, sx3, sx4, sx5, sx6, tf82, ev3_hold, sxo, sxc, sxp, sxq, sxr, sxs, sxl, sxm, Int.reduceBEq, Int.reduceBNe, Int.reduceLT, Int.reduceLE, Int.reduceEq, Int.reduceGT, Int.reduceGE, Int.reduceToNat, ↓reduceIte, List.reduceReplicate, Nat.reduceAdd, Nat.reduceSub, Nat.reduceMul, Nat.reduceLT, Nat.reduceLeDiff, Nat.reduceBEq, Nat.reduceEqDiff, f7]
    intro b2
    have hpe : parR M c.depth.length = M := by
      rw [← hMl]
      exact parR_end M
    rw [hin, hpe]
    rw [← hRe]
    refine app_one (l := bs) b (HImp.swap _ _ _ _) (slN_len _) (slN_one _) (by omega) fun ad2 c2 => ?_
    simp (config := { maxSteps := 4000000 }) only [↓sx0, ↓sx1, ↓sx2, ↓sx3, ↓sx4, ↓sx5, ↓sx6, sx0, sx1, sx2, sx3, sx4, sx5, sx6, tf82, ev3_hold, sxo, sxc, sxp, sxq, sxr, sxs, sxl, sxm, Int.reduceBEq, Int.reduceBNe, Int.reduceLT, Int.reduceLE, Int.reduceEq, Int.reduceGT, Int.reduceGE, Int.reduceToNat, ↓reduceIte, List.reduceReplicate, Nat.reduceAdd, Nat.reduceSub, Nat.reduceMul, Nat.reduceLT, Nat.reduceLeDiff, Nat.reduceBEq, Nat.reduceEqDiff, e8]
    refine ⟨(j + 1, some ad2, c2), _, ?_, HImp.refl _ _, ⟨by omega, bs ++ [b], OO b M :: ros, ?_, ?_, ?_, ?_⟩, by omega⟩
    · simp only []
      rw [hbl]
      exact ⟨rfl, trivial⟩
    · rw [hRe]
      simp only [hbl]
    · simp [hbl]
    · simp only []
      intro h
      cases h
    · intro i' b' hi'
      by_cases hib : i' < bs.length
      · rw [List.getElem?_append_left hib] at hi'
        exact List.mem_cons_of_mem _ (hros i' b' hi')
      · rw [List.getElem?_append_right (by omega)] at hi'
        have h0 : i' - bs.length = 0 := by
          have := (List.getElem?_eq_some_iff.1 hi').1
          simp at this
          omega
        rw [h0] at hi'
        simp at hi'
        subst hi'
        rw [show i' = j by omega, hM]
        exact List.mem_cons_self
  have f7 : ((i : Int) < (c.depth.length : Int)) = True := eq_true (by omega)
  have f8 : IntKind.i64.wrap ((i : Int) + 1) = ((i + 1 : Nat) : Int) := (wrap_id (by omega)).trans (by omega)
  have hpl := parR_len M (i := i) (by omega)
  have hps := parR_set M (i := i) (by omega)
  refine ⟨?_⟩
  simp (config := { maxSteps := 4000000 }) only [↓sx0, ↓sx1, ↓sx2, ↓sx3, ↓sx4, ↓sx5, ↓sx6, sx0, sx1, sx2, sx3, sx4, sx5, sx6, tf82, ev3_hold, sxo, sxc, sxp, sxq, sxr, sxs, sxl, sxm, Int.reduceBEq, Int.reduceBNe, Int.reduceLT, Int.reduceLE, Int.reduceEq, Int.reduceGT, Int.reduceGE, Int.reduceToNat, ↓reduceIte, List.reduceReplicate, Nat.reduceAdd, Nat.reduceSub, Nat.reduceMul, Nat.reduceLT, Nat.reduceLeDiff, Nat.reduceBEq, Nat.reduceEqDiff, f7]
  refine ⟨by omega, _, rfl, ?_⟩
  rw [← hOe]
  refine wr_at (A := []) (l := parR M i) (k := i) (u := (-1 : Int)) rfl i1_len (by omega) (by omega) ?_
  rw [hOe, List.nil_append]
  cases j with
  | zero =>
    have hz := mvL_zero (c := c) (g := g) (t := T) hA (show i < c.depth.length by omega)
    rw [hM] at hz
    by_cases hiA : i = A
    · have k1 : ((i : Int) = (A : Int)) = True := eq_true (by omega)
      simp (config := { maxSteps := 4000000 }) only [↓sx0, ↓sx1, ↓sx2, ↓sx3, ↓sx4, ↓sx5, ↓sx6, sx0, sx1, sx2, sx3, sx4, sx5, sx6, tf82, ev3_hold, sxo, sxc, sxp, sxq, sxr, sxs, sxl, sxm, Int.reduceBEq, Int.reduceBNe, Int.reduceLT, Int.reduceLE, Int.reduceEq, Int.reduceGT, Int.reduceGE, Int.reduceToNat, ↓reduceIte, List.reduceReplicate, Nat.reduceAdd, Nat.reduceSub, Nat.reduceMul, Nat.reduceLT, Nat.reduceLeDiff, Nat.reduceBEq, Nat.reduceEqDiff, k1, dn, Nat.add_zero]
      refine CallOb.pureH (fun w' hp => sure_fn w' _ c (hc0.hp hp) hok g i T (by omega) hT) ?_
      intro r1 N1 hr1
      cases hf : c.flt g T i with
      | false =>
        have hr2 : r1 = .bool false := hr1.trans (congrArg _ hf)
        subst hr2
        refine ⟨?_⟩
        simp (config := { maxSteps := 4000000 }) only [↓sx0, ↓sx1, ↓sx2, ↓sx3, ↓sx4, ↓sx5, ↓sx6, sx0, sx1, sx2, sx3, sx4, sx5, sx6, tf82, ev3_hold, sxo, sxc, sxp, sxq, sxr, sxs, sxl, sxm, Int.reduceBEq, Int.reduceBNe, Int.reduceLT, Int.reduceLE, Int.reduceEq, Int.reduceGT, Int.reduceGE, Int.reduceToNat, ↓reduceIte, List.reduceReplicate, Nat.reduceAdd, Nat.reduceSub, Nat.reduceMul, Nat.reduceLT, Nat.reduceLeDiff, Nat.reduceBEq, Nat.reduceEqDiff, f8]
        refine ⟨i + 1, _, rfl, HImp.app _ _ _, ⟨by omega, ?_⟩, by omega⟩
        rw [← hps, hz, if_neg (by rw [← hiA, hf]; simp)]
      | true =>
        have hr2 : r1 = .bool true := hr1.trans (congrArg _ hf)
        subst hr2
        refine ⟨?_⟩
        simp (config := { maxSteps := 4000000 }) only [↓sx0, ↓sx1, ↓sx2, ↓sx3, ↓sx4, ↓sx5, ↓sx6, sx0, sx1, sx2, sx3, sx4, sx5, sx6, tf82, ev3_hold, sxo, sxc, sxp, sxq, sxr, sxs, sxl, sxm, Int.reduceBEq, Int.reduceBNe, Int.reduceLT, Int.reduceLE, Int.reduceEq, Int.reduceGT, Int.reduceGE, Int.reduceToNat, ↓reduceIte, List.reduceReplicate, Nat.reduceAdd, Nat.reduceSub, Nat.reduceMul, Nat.reduceLT, Nat.reduceLeDiff, Nat.reduceBEq, Nat.reduceEqDiff, f7]
        refine ⟨by omega, _, rfl, ?_⟩
        rw [← hOe]
        refine wr_at (A := N1) (l := (parR M i).set i (-1)) (k := i) (u := (0 : Int)) rfl i1_len (by rw [List.length_set]; omega) (by rw [List.length_set]; omega) ?_
        rw [hOe, List.set_set]
        simp (config := { maxSteps := 4000000 }) only [↓sx0, ↓sx1, ↓sx2, ↓sx3, ↓sx4, ↓sx5, ↓sx6, sx0, sx1, sx2, sx3, sx4, sx5, sx6, tf82, ev3_hold, sxo, sxc, sxp, sxq, sxr, sxs, sxl, sxm, Int.reduceBEq, Int.reduceBNe, Int.reduceLT, Int.reduceLE, Int.reduceEq, Int.reduceGT, Int.reduceGE, Int.reduceToNat, ↓reduceIte, List.reduceReplicate, Nat.reduceAdd, Nat.reduceSub, Nat.reduceMul, Nat.reduceLT, Nat.reduceLeDiff, Nat.reduceBEq, Nat.reduceEqDiff, f8]
        refine ⟨i + 1, _, rfl, HImp.app _ _ _, ⟨by omega, ?_⟩, by omega⟩
        rw [← hps, hz, if_pos ⟨hiA, by rw [← hiA, hf]⟩]
    · have k1 : ((i : Int) = (A : Int)) = False := eq_false (by omega)
      simp (config := { maxSteps := 4000000 }) only [↓sx0, ↓sx1, ↓sx2, ↓sx3, ↓sx4, ↓sx5, ↓sx6, sx0, sx1, sx2, sx3, sx4, sx5, sx6, tf82, ev3_hold, sxo, sxc, sxp, sxq, sxr, sxs, sxl, sxm, Int.reduceBEq, Int.reduceBNe, Int.reduceLT, Int.reduceLE, Int.reduceEq, Int.reduceGT, Int.reduceGE, Int.reduceToNat, ↓reduceIte, List.reduceReplicate, Nat.reduceAdd, Nat.reduceSub, Nat.reduceMul, Nat.reduceLT, Nat.reduceLeDiff, Nat.reduceBEq, Nat.reduceEqDiff, k1, f8, Nat.add_zero]
      refine ⟨i + 1, _, rfl, HImp.refl _ _, ⟨by omega, ?_⟩, by omega⟩
      rw [← hps, hz, if_neg (fun h => hiA h.1)]
  | succ j' =>
  have k1 : (((T + (j' + 1) : Nat) : Int) = (T : Int)) = False := eq_false (by omega)
  have hsu := mvL_succ hok (g := g) (k := A) (t := T) (i := j') (show i < c.depth.length by omega)
  have hge := mvL_ge hok (g := g) (k := A) (t := T) j'
  have hle := mvL_le hok (g := g) (t := T) hA j'
  have hMpl := mvL_len c g A T j'
  rw [hM] at hsu
  have hbj : ∃ bp, bs[j']? = some bp := ⟨_, List.getElem?_eq_getElem (by omega)⟩
  obtain ⟨bp, hbp⟩ := hbj
  have hrp := hros j' bp hbp
  generalize mvL c g A T j' = Mp at hsu hge hle hMpl hrp
  have hsu2 : Lst (fwP c g (T + (j' + 1)) i Mp (nbL c.W c.H i)) (lv M i) := hsu
  simp (config := { maxSteps := 4000000 }) only [↓sx0, ↓sx1, ↓sx2, ↓sx3, ↓sx4, ↓sx5, ↓sx6, sx0, sx1, sx2, sx3, sx4, sx5, sx6, tf82, ev3_hold, sxo, sxc, sxp, sxq, sxr, sxs, sxl, sxm, Int.reduceBEq, Int.reduceBNe, Int.reduceLT, Int.reduceLE, Int.reduceEq, Int.reduceGT, Int.reduceGE, Int.reduceToNat, ↓reduceIte, List.reduceReplicate, Nat.reduceAdd, Nat.reduceSub, Nat.reduceMul, Nat.reduceLT, Nat.reduceLeDiff, Nat.reduceBEq, Nat.reduceEqDiff, k1, dn]
  refine CallOb.pureH (fun w' hp => rnear_fn w' (hw.hp hp) _ c (hc0.hp hp) hok i (by omega)) ?_
  rintro r1 N1 hnb
  have hshp := hnb.shape
  obtain ⟨adb, cpb, rfl⟩ := hshp
  have hnl := nbL_len c.W c.H i
  have hnl2 : (nts (nbL c.W c.H i)).length = (nbL c.W c.H i).length := by simp
  rw [hnl2] at hnb ⊢
  have hrn : ∀ G, (∀ h ∈ N1, h ∈ G) → Rdv ⟨w, fun _ => False⟩ G (.slice adb (nbL c.W c.H i).length cpb) 1 (ints (nts (nbL c.W c.H i))) := fun G hG => hnb.rdv i1_len hG
  refine ⟨?_⟩
  simp (config := { maxSteps := 4000000 }) only [↓sx0, ↓sx1, ↓sx2, ↓sx3, ↓sx4, ↓sx5, ↓sx6, sx0, sx1, sx2, sx3, sx4, sx5, sx6, tf82, ev3_hold, sxo, sxc, sxp, sxq, sxr, sxs, sxl, sxm, Int.reduceBEq, Int.reduceBNe, Int.reduceLT, Int.reduceLE, Int.reduceEq, Int.reduceGT, Int.reduceGE, Int.reduceToNat, ↓reduceIte, List.reduceReplicate, Nat.reduceAdd, Nat.reduceSub, Nat.reduceMul, Nat.reduceLT, Nat.reduceLeDiff, Nat.reduceBEq, Nat.reduceEqDiff, dn]
  refine loop_constH (N1 ++ OO b ((parR M i).set i (-1)) :: RR ad (j' + 1) cp bs :: ros) (HImp.refl _ _) [(14, 15), (55, 107)] (fun k : Nat => [(14, I k)])
    (fun k H1 => k ≤ (nbL c.W c.H i).length ∧ ∃ v, Lst (fwP c g (T + (j' + 1)) i Mp ((nbL c.W c.H i).take k)) v ∧ H1 = N1 ++ OO b ((parR M i).set i v) :: RR ad (j' + 1) cp bs :: ros) (fun k => (nbL c.W c.H i).length - k) 0 ?_ ⟨Nat.zero_le _, -1, .inl ⟨rfl, fun m ⟨y, h, _⟩ => by simp at h⟩, rfl⟩ ?_
  · simp (config := { maxSteps := 4000000 }) only [↓sx0, ↓sx1, ↓sx2, ↓sx3, ↓sx4, ↓sx5, ↓sx6, sx0, sx1, sx2, sx3, sx4, sx5, sx6, tf82, ev3_hold, sxo, sxc, sxp, sxq, sxr, sxs, sxl, sxm, Int.reduceBEq, Int.reduceBNe, Int.reduceLT, Int.reduceLE, Int.reduceEq, Int.reduceGT, Int.reduceGE, Int.reduceToNat, ↓reduceIte, List.reduceReplicate, Nat.reduceAdd, Nat.reduceSub, Nat.reduceMul, Nat.reduceLT, Nat.reduceLeDiff, Nat.reduceBEq, Nat.reduceEqDiff]
    simp
  rintro k H1 g3 ⟨hk, v, hv, rfl⟩
  have hvge := hv.ge
  by_cases hkn : k = (nbL c.W c.H i).length
  · have q7 : ((k : Int) < ((nbL c.W c.H i).length : Int)) = False := eq_false (by omega)
    have hvM : v = lv M i := by
      rw [hkn, List.take_length] at hv
      exact hv.uniq hsu2
    refine ⟨?_⟩
    simp (config := { maxSteps := 4000000 }) only [↓sx0, ↓sx1, ↓sx2, ↓sx3, ↓sx4, ↓sx5, ↓sx6, sx0, sx1, sx2, sx3, sx4, sx5, sx6, tf82, ev3_hold, sxo, sxc, sxp, sxq, sxr, sxs, sxl, sxm, Int.reduceBEq, Int.reduceBNe, Int.reduceLT, Int.reduceLE, Int.reduceEq, Int.reduceGT, Int.reduceGE, Int.reduceToNat, ↓reduceIte, List.reduceReplicate, Nat.reduceAdd, Nat.reduceSub, Nat.reduceMul, Nat.reduceLT, Nat.reduceLeDiff, Nat.reduceBEq, Nat.reduceEqDiff, q7, f8]
    refine ⟨i + 1, _, rfl, HImp.app _ _ _, ⟨by omega, ?_⟩, by omega⟩
    rw [hvM, hps]
  have q7 : ((k : Int) < ((nbL c.W c.H i).length : Int)) = True := eq_true (by omega)
  have q8 : IntKind.i64.wrap ((k : Int) + 1) = ((k + 1 : Nat) : Int) := (wrap_id (by omega)).trans (by omega)
  refine ⟨?_⟩
  simp (config := { maxSteps := 4000000 }) only [↓sx0, ↓sx1, ↓sx2, ↓sx3, ↓sx4, ↓sx5, ↓sx6, sx0, sx1, sx2, sx3, sx4, sx5, sx6, tf82, ev3_hold, sxo, sxc, sxp, sxq, sxr, sxs, sxl, sxm, Int.reduceBEq, Int.reduceBNe, Int.reduceLT, Int.reduceLE, Int.reduceEq, Int.reduceGT, Int.reduceGE, Int.reduceToNat, ↓reduceIte, List.reduceReplicate, Nat.reduceAdd, Nat.reduceSub, Nat.reduceMul, Nat.reduceLT, Nat.reduceLeDiff, Nat.reduceBEq, Nat.reduceEqDiff, q7, dn]
  refine CallOb.pureH (fun w' hp => sure_fn w' _ c (hc0.hp hp) hok g i (T + (j' + 1)) (by omega) (by omega)) ?_
  intro r2 N2 hr2
  cases hf : c.flt g (T + (j' + 1)) i with
  | false =>
    have hr3 : r2 = .bool false := hr2.trans (congrArg _ hf)
    subst hr3
    have hvM : v = lv M i := by
      rcases hv with ⟨h1, _⟩ | ⟨_, ⟨y, _, _, h, _⟩, _⟩
      · rcases hsu2 with ⟨h2, _⟩ | ⟨_, ⟨y, _, _, h, _⟩, _⟩
        · omega
        · rw [hf] at h
          cases h
      · rw [hf] at h
        cases h
    refine ⟨?_⟩
    simp (config := { maxSteps := 4000000 }) only [↓sx0, ↓sx1, ↓sx2, ↓sx3, ↓sx4, ↓sx5, ↓sx6, sx0, sx1, sx2, sx3, sx4, sx5, sx6, tf82, ev3_hold, sxo, sxc, sxp, sxq, sxr, sxs, sxl, sxm, Int.reduceBEq, Int.reduceBNe, Int.reduceLT, Int.reduceLE, Int.reduceEq, Int.reduceGT, Int.reduceGE, Int.reduceToNat, ↓reduceIte, List.reduceReplicate, Nat.reduceAdd, Nat.reduceSub, Nat.reduceMul, Nat.reduceLT, Nat.reduceLeDiff, Nat.reduceBEq, Nat.reduceEqDiff, f8]
    refine ⟨i + 1, _, rfl, (HImp.app _ _ _).trans (HImp.app _ _ _), ⟨by omega, ?_⟩, by omega⟩
    rw [hvM, hps]
  | true =>
  have hr3 : r2 = .bool true := hr2.trans (congrArg _ hf)
  subst hr3
  have p1 : IntKind.i64.wrap (((T + (j' + 1) : Nat) : Int) - (T : Int)) = ((j' + 1 : Nat) : Int) := (wrap_id (by omega)).trans (by omega)
  have p2 : IntKind.i64.wrap (((j' + 1 : Nat) : Int) - 1) = (j' : Int) := (wrap_id (by omega)).trans (by omega)
  have hy0 : ∃ y, (nbL c.W c.H i)[k]? = some y := ⟨_, List.getElem?_eq_getElem (by omega)⟩
  obtain ⟨y, hy⟩ := hy0
  have hyN := nbL_lt (show i < c.W * c.H by omega) y (List.mem_of_getElem? hy)
  have hyI : (nts (nbL c.W c.H i))[k]? = some (y : Int) := by rw [List.getElem?_map, hy]; rfl
  have htk : (nbL c.W c.H i).take (k + 1) = (nbL c.W c.H i).take k ++ [y] := by rw [List.take_add_one, hy]; rfl
  generalize hFF : N1 ++ OO b ((parR M i).set i v) :: RR ad (j' + 1) cp bs :: ros = FF
  have hm1 : ∀ h ∈ N1, h ∈ N2 ++ FF := fun h hh => by rw [← hFF]; simp [hh]
  have hm2 : RR ad (j' + 1) cp bs ∈ N2 ++ FF := by rw [← hFF]; simp
  have hm3 : OO bp Mp ∈ N2 ++ FF := by rw [← hFF]; simp [hrp]
  have hm4 : OO b ((parR M i).set i v) ∈ N2 ++ FF := by rw [← hFF]; simp
  have hrl : Rdv ⟨w, fun _ => False⟩ (N2 ++ FF) (.slice ad (j' + 1) cp) 1 (cat (slN c.depth.length) bs) := by
    rw [← hRe] at hm2
    exact row_rdv (E := 22) hm2 ⟨_, _, _, rfl, by rw [cat_len (slN_len _), hbl], fun h => by rw [hnil h]; rfl⟩
  have hvi : ((parR M i).set i v)[i]? = some v := List.getElem?_set_self (by omega)
  have hyl := hat Mp y (by omega)
  have hbh := hle y
  refine ⟨?_⟩
  simp (config := { maxSteps := 4000000 }) only [↓sx0, ↓sx1, ↓sx2, ↓sx3, ↓sx4, ↓sx5, ↓sx6, sx0, sx1, sx2, sx3, sx4, sx5, sx6, tf82, ev3_hold, sxo, sxc, sxp, sxq, sxr, sxs, sxl, sxm, Int.reduceBEq, Int.reduceBNe, Int.reduceLT, Int.reduceLE, Int.reduceEq, Int.reduceGT, Int.reduceGE, Int.reduceToNat, ↓reduceIte, List.reduceReplicate, Nat.reduceAdd, Nat.reduceSub, Nat.reduceMul, Nat.reduceLT, Nat.reduceLeDiff, Nat.reduceBEq, Nat.reduceEqDiff, p1, p2]
  refine at_1 hrl (slN_len _) hbp rfl fun ad1 => ?_
  simp (config := { maxSteps := 4000000 }) only [↓sx0, ↓sx1, ↓sx2, ↓sx3, ↓sx4, ↓sx5, ↓sx6, sx0, sx1, sx2, sx3, sx4, sx5, sx6, tf82, ev3_hold, sxo, sxc, sxp, sxq, sxr, sxs, sxl, sxm, Int.reduceBEq, Int.reduceBNe, Int.reduceLT, Int.reduceLE, Int.reduceEq, Int.reduceGT, Int.reduceGE, Int.reduceToNat, ↓reduceIte, List.reduceReplicate, Nat.reduceAdd, Nat.reduceSub, Nat.reduceMul, Nat.reduceLT, Nat.reduceLeDiff, Nat.reduceBEq, Nat.reduceEqDiff, q7]
  refine amid (at_1 (hrn _ hm1) i1_len hyI rfl fun ad2 => ?_)
  simp (config := { maxSteps := 4000000 }) only [↓sx0, ↓sx1, ↓sx2, ↓sx3, ↓sx4, ↓sx5, ↓sx6, sx0, sx1, sx2, sx3, sx4, sx5, sx6, tf82, ev3_hold, sxo, sxc, sxp, sxq, sxr, sxs, sxl, sxm, Int.reduceBEq, Int.reduceBNe, Int.reduceLT, Int.reduceLE, Int.reduceEq, Int.reduceGT, Int.reduceGE, Int.reduceToNat, ↓reduceIte, List.reduceReplicate, Nat.reduceAdd, Nat.reduceSub, Nat.reduceMul, Nat.reduceLT, Nat.reduceLeDiff, Nat.reduceBEq, Nat.reduceEqDiff]
  refine at_1 (hrd bp Mp hMpl _ hm3) i1_len hyl rfl fun ad3 => ?_
  by_cases hn0 : lv Mp y < 0
  · have k2 : (lv Mp y < 0) = True := eq_true hn0
    simp (config := { maxSteps := 4000000 }) only [↓sx0, ↓sx1, ↓sx2, ↓sx3, ↓sx4, ↓sx5, ↓sx6, sx0, sx1, sx2, sx3, sx4, sx5, sx6, tf82, ev3_hold, sxo, sxc, sxp, sxq, sxr, sxs, sxl, sxm, Int.reduceBEq, Int.reduceBNe, Int.reduceLT, Int.reduceLE, Int.reduceEq, Int.reduceGT, Int.reduceGE, Int.reduceToNat, ↓reduceIte, List.reduceReplicate, Nat.reduceAdd, Nat.reduceSub, Nat.reduceMul, Nat.reduceLT, Nat.reduceLeDiff, Nat.reduceBEq, Nat.reduceEqDiff, k2, q8]
    refine ⟨k + 1, _, rfl, HImp.app _ _ _, ⟨by omega, v, by rw [htk]; exact fw_skip hv hn0, hFF.symm⟩, by omega⟩
  have k2 : (lv Mp y < 0) = False := eq_false hn0
  have hN : ∃ n, lv Mp y = n := ⟨_, rfl⟩
  obtain ⟨n, hn⟩ := hN
  have p3 : IntKind.i64.wrap (n + 1) = n + 1 := wrap_id (by omega)
  rw [hn] at k2
  have hgo : ∀ n', n' = n + cst y i → Lst (fwP c g (T + (j' + 1)) i Mp ((nbL c.W c.H i).take (k + 1))) (if v = -1 ∨ n' < v then n' else v) := fun n' h => by
    rw [htk]
    exact fw_more hv (by omega) hf (by omega)
  rw [hn]
  by_cases hyi : y = i
  · have k3 : ((y : Int) = (i : Int)) = True := eq_true (by omega)
    have hcs : n = n + cst y i := by
      unfold cst
      rw [if_pos hyi.symm]
      omega
    simp (config := { maxSteps := 4000000 }) only [↓sx0, ↓sx1, ↓sx2, ↓sx3, ↓sx4, ↓sx5, ↓sx6, sx0, sx1, sx2, sx3, sx4, sx5, sx6, tf82, ev3_hold, sxo, sxc, sxp, sxq, sxr, sxs, sxl, sxm, Int.reduceBEq, Int.reduceBNe, Int.reduceLT, Int.reduceLE, Int.reduceEq, Int.reduceGT, Int.reduceGE, Int.reduceToNat, ↓reduceIte, List.reduceReplicate, Nat.reduceAdd, Nat.reduceSub, Nat.reduceMul, Nat.reduceLT, Nat.reduceLeDiff, Nat.reduceBEq, Nat.reduceEqDiff, k2, q7]
    refine amid (at_1 (hrn _ hm1) i1_len hyI rfl fun ad4 => ?_)
    simp (config := { maxSteps := 4000000 }) only [↓sx0, ↓sx1, ↓sx2, ↓sx3, ↓sx4, ↓sx5, ↓sx6, sx0, sx1, sx2, sx3, sx4, sx5, sx6, tf82, ev3_hold, sxo, sxc, sxp, sxq, sxr, sxs, sxl, sxm, Int.reduceBEq, Int.reduceBNe, Int.reduceLT, Int.reduceLE, Int.reduceEq, Int.reduceGT, Int.reduceGE, Int.reduceToNat, ↓reduceIte, List.reduceReplicate, Nat.reduceAdd, Nat.reduceSub, Nat.reduceMul, Nat.reduceLT, Nat.reduceLeDiff, Nat.reduceBEq, Nat.reduceEqDiff, k3, f7]
    refine ⟨by omega, _, rfl, ?_⟩
    refine ld_at1 (hrd b _ (by rw [List.length_set]; omega) _ hm4) i1_len hvi rfl ?_
    have hg2 := hgo n hcs
    by_cases hv0 : v < 0
    · have k4 : (v < 0) = True := eq_true hv0
      simp (config := { maxSteps := 4000000 }) only [↓sx0, ↓sx1, ↓sx2, ↓sx3, ↓sx4, ↓sx5, ↓sx6, sx0, sx1, sx2, sx3, sx4, sx5, sx6, tf82, ev3_hold, sxo, sxc, sxp, sxq, sxr, sxs, sxl, sxm, Int.reduceBEq, Int.reduceBNe, Int.reduceLT, Int.reduceLE, Int.reduceEq, Int.reduceGT, Int.reduceGE, Int.reduceToNat, ↓reduceIte, List.reduceReplicate, Nat.reduceAdd, Nat.reduceSub, Nat.reduceMul, Nat.reduceLT, Nat.reduceLeDiff, Nat.reduceBEq, Nat.reduceEqDiff, k4, f7]
      refine ⟨by omega, _, rfl, ?_⟩
      rw [← hFF, ← hOe]
      refine wr_at (A := N2 ++ N1) (l := (parR M i).set i v) (k := i) (u := n) (List.append_assoc _ _ _).symm i1_len (by rw [List.length_set]; omega) (by rw [List.length_set]; omega) ?_
      rw [hOe, List.set_set, List.append_assoc]
      simp (config := { maxSteps := 4000000 }) only [↓sx0, ↓sx1, ↓sx2, ↓sx3, ↓sx4, ↓sx5, ↓sx6, sx0, sx1, sx2, sx3, sx4, sx5, sx6, tf82, ev3_hold, sxo, sxc, sxp, sxq, sxr, sxs, sxl, sxm, Int.reduceBEq, Int.reduceBNe, Int.reduceLT, Int.reduceLE, Int.reduceEq, Int.reduceGT, Int.reduceGE, Int.reduceToNat, ↓reduceIte, List.reduceReplicate, Nat.reduceAdd, Nat.reduceSub, Nat.reduceMul, Nat.reduceLT, Nat.reduceLeDiff, Nat.reduceBEq, Nat.reduceEqDiff, q8]
      refine ⟨k + 1, _, rfl, HImp.app _ _ _, ⟨by omega, n, ?_, rfl⟩, by omega⟩
      rw [if_pos (.inl (by omega))] at hg2
      exact hg2
    have k4 : (v < 0) = False := eq_false hv0
    by_cases hv1 : n < v
    · have k5 : (n < v) = True := eq_true hv1
      simp (config := { maxSteps := 4000000 }) only [↓sx0, ↓sx1, ↓sx2, ↓sx3, ↓sx4, ↓sx5, ↓sx6, sx0, sx1, sx2, sx3, sx4, sx5, sx6, tf82, ev3_hold, sxo, sxc, sxp, sxq, sxr, sxs, sxl, sxm, Int.reduceBEq, Int.reduceBNe, Int.reduceLT, Int.reduceLE, Int.reduceEq, Int.reduceGT, Int.reduceGE, Int.reduceToNat, ↓reduceIte, List.reduceReplicate, Nat.reduceAdd, Nat.reduceSub, Nat.reduceMul, Nat.reduceLT, Nat.reduceLeDiff, Nat.reduceBEq, Nat.reduceEqDiff, k4, f7]
      refine ⟨by omega, _, rfl, ?_⟩
      refine ld_at1 (hrd b _ (by rw [List.length_set]; omega) _ hm4) i1_len hvi rfl ?_
      simp (config := { maxSteps := 4000000 }) only [↓sx0, ↓sx1, ↓sx2, ↓sx3, ↓sx4, ↓sx5, ↓sx6, sx0, sx1, sx2, sx3, sx4, sx5, sx6, tf82, ev3_hold, sxo, sxc, sxp, sxq, sxr, sxs, sxl, sxm, Int.reduceBEq, Int.reduceBNe, Int.reduceLT, Int.reduceLE, Int.reduceEq, Int.reduceGT, Int.reduceGE, Int.reduceToNat, ↓reduceIte, List.reduceReplicate, Nat.reduceAdd, Nat.reduceSub, Nat.reduceMul, Nat.reduceLT, Nat.reduceLeDiff, Nat.reduceBEq, Nat.reduceEqDiff, k5, f7]
      refine ⟨by omega, _, rfl, ?_⟩
      rw [← hFF, ← hOe]
      refine wr_at (A := N2 ++ N1) (l := (parR M i).set i v) (k := i) (u := n) (List.append_assoc _ _ _).symm i1_len (by rw [List.length_set]; omega) (by rw [List.length_set]; omega) ?_
      rw [hOe, List.set_set, List.append_assoc]
      simp (config := { maxSteps := 4000000 }) only [↓sx0, ↓sx1, ↓sx2, ↓sx3, ↓sx4, ↓sx5, ↓sx6, sx0, sx1, sx2, sx3, sx4, sx5, sx6, tf82, ev3_hold, sxo, sxc, sxp, sxq, sxr, sxs, sxl, sxm, Int.reduceBEq, Int.reduceBNe, Int.reduceLT, Int.reduceLE, Int.reduceEq, Int.reduceGT, Int.reduceGE, Int.reduceToNat, ↓reduceIte, List.reduceReplicate, Nat.reduceAdd, Nat.reduceSub, Nat.reduceMul, Nat.reduceLT, Nat.reduceLeDiff, Nat.reduceBEq, Nat.reduceEqDiff, q8]
      refine ⟨k + 1, _, rfl, HImp.app _ _ _, ⟨by omega, n, ?_, rfl⟩, by omega⟩
      rw [if_pos (.inr hv1)] at hg2
      exact hg2
    have k5 : (n < v) = False := eq_false hv1
    simp (config := { maxSteps := 4000000 }) only [↓sx0, ↓sx1, ↓sx2, ↓sx3, ↓sx4, ↓sx5, ↓sx6, sx0, sx1, sx2, sx3, sx4, sx5, sx6, tf82, ev3_hold, sxo, sxc, sxp, sxq, sxr, sxs, sxl, sxm, Int.reduceBEq, Int.reduceBNe, Int.reduceLT, Int.reduceLE, Int.reduceEq, Int.reduceGT, Int.reduceGE, Int.reduceToNat, ↓reduceIte, List.reduceReplicate, Nat.reduceAdd, Nat.reduceSub, Nat.reduceMul, Nat.reduceLT, Nat.reduceLeDiff, Nat.reduceBEq, Nat.reduceEqDiff, k4, f7]
    refine ⟨by omega, _, rfl, ?_⟩
    refine ld_at1 (hrd b _ (by rw [List.length_set]; omega) _ hm4) i1_len hvi rfl ?_
    simp (config := { maxSteps := 4000000 }) only [↓sx0, ↓sx1, ↓sx2, ↓sx3, ↓sx4, ↓sx5, ↓sx6, sx0, sx1, sx2, sx3, sx4, sx5, sx6, tf82, ev3_hold, sxo, sxc, sxp, sxq, sxr, sxs, sxl, sxm, Int.reduceBEq, Int.reduceBNe, Int.reduceLT, Int.reduceLE, Int.reduceEq, Int.reduceGT, Int.reduceGE, Int.reduceToNat, ↓reduceIte, List.reduceReplicate, Nat.reduceAdd, Nat.reduceSub, Nat.reduceMul, Nat.reduceLT, Nat.reduceLeDiff, Nat.reduceBEq, Nat.reduceEqDiff, k5, q8]
    refine ⟨k + 1, _, rfl, HImp.app _ _ _, ⟨by omega, v, ?_, hFF.symm⟩, by omega⟩
    rw [if_neg (by omega)] at hg2
    exact hg2
  have k3 : ((y : Int) = (i : Int)) = False := eq_false (by omega)
  have hcs : n + 1 = n + cst y i := by
    unfold cst
    rw [if_neg (fun h => hyi h.symm)]
  simp (config := { maxSteps := 4000000 }) only [↓sx0, ↓sx1, ↓sx2, ↓sx3, ↓sx4, ↓sx5, ↓sx6, sx0, sx1, sx2, sx3, sx4, sx5, sx6, tf82, ev3_hold, sxo, sxc, sxp, sxq, sxr, sxs, sxl, sxm, Int.reduceBEq, Int.reduceBNe, Int.reduceLT, Int.reduceLE, Int.reduceEq, Int.reduceGT, Int.reduceGE, Int.reduceToNat, ↓reduceIte, List.reduceReplicate, Nat.reduceAdd, Nat.reduceSub, Nat.reduceMul, Nat.reduceLT, Nat.reduceLeDiff, Nat.reduceBEq, Nat.reduceEqDiff, k2, q7]
  refine amid (at_1 (hrn _ hm1) i1_len hyI rfl fun ad4 => ?_)
  simp (config := { maxSteps := 4000000 }) only [↓sx0, ↓sx1, ↓sx2, ↓sx3, ↓sx4, ↓sx5, ↓sx6, sx0, sx1, sx2, sx3, sx4, sx5, sx6, tf82, ev3_hold, sxo, sxc, sxp, sxq, sxr, sxs, sxl, sxm, Int.reduceBEq, Int.reduceBNe, Int.reduceLT, Int.reduceLE, Int.reduceEq, Int.reduceGT, Int.reduceGE, Int.reduceToNat, ↓reduceIte, List.reduceReplicate, Nat.reduceAdd, Nat.reduceSub, Nat.reduceMul, Nat.reduceLT, Nat.reduceLeDiff, Nat.reduceBEq, Nat.reduceEqDiff, k3, p3, f7]
  refine ⟨by omega, _, rfl, ?_⟩
  refine ld_at1 (hrd b _ (by rw [List.length_set]; omega) _ hm4) i1_len hvi rfl ?_
  have hg2 := hgo (n + 1) hcs
  by_cases hv0 : v < 0
  · have k4 : (v < 0) = True := eq_true hv0
    simp (config := { maxSteps := 4000000 }) only [↓sx0, ↓sx1, ↓sx2, ↓sx3, ↓sx4, ↓sx5, ↓sx6, sx0, sx1, sx2, sx3, sx4, sx5, sx6, tf82, ev3_hold, sxo, sxc, sxp, sxq, sxr, sxs, sxl, sxm, Int.reduceBEq, Int.reduceBNe, Int.reduceLT, Int.reduceLE, Int.reduceEq, Int.reduceGT, Int.reduceGE, Int.reduceToNat, ↓reduceIte, List.reduceReplicate, Nat.reduceAdd, Nat.reduceSub, Nat.reduceMul, Nat.reduceLT, Nat.reduceLeDiff, Nat.reduceBEq, Nat.reduceEqDiff, k4, f7]
    refine ⟨by omega, _, rfl, ?_⟩
    rw [← hFF, ← hOe]
    refine wr_at (A := N2 ++ N1) (l := (parR M i).set i v) (k := i) (u := (n + 1)) (List.append_assoc _ _ _).symm i1_len (by rw [List.length_set]; omega) (by rw [List.length_set]; omega) ?_
    rw [hOe, List.set_set, List.append_assoc]
    simp (config := { maxSteps := 4000000 }) only [↓sx0, ↓sx1, ↓sx2, ↓sx3, ↓sx4, ↓sx5, ↓sx6, sx0, sx1, sx2, sx3, sx4, sx5, sx6, tf82, ev3_hold, sxo, sxc, sxp, sxq, sxr, sxs, sxl, sxm, Int.reduceBEq, Int.reduceBNe, Int.reduceLT, Int.reduceLE, Int.reduceEq, Int.reduceGT, Int.reduceGE, Int.reduceToNat, ↓reduceIte, List.reduceReplicate, Nat.reduceAdd, Nat.reduceSub, Nat.reduceMul, Nat.reduceLT, Nat.reduceLeDiff, Nat.reduceBEq, Nat.reduceEqDiff, q8]
    refine ⟨k + 1, _, rfl, HImp.app _ _ _, ⟨by omega, (n + 1), ?_, rfl⟩, by omega⟩
    rw [if_pos (.inl (by omega))] at hg2
    exact hg2
  have k4 : (v < 0) = False := eq_false hv0
  by_cases hv1 : (n + 1) < v
  · have k5 : ((n + 1) < v) = True := eq_true hv1
    simp (config := { maxSteps := 4000000 }) only [↓sx0, ↓sx1, ↓sx2, ↓sx3, ↓sx4, ↓sx5, ↓sx6, sx0, sx1, sx2, sx3, sx4, sx5, sx6, tf82, ev3_hold, sxo, sxc, sxp, sxq, sxr, sxs, sxl, sxm, Int.reduceBEq, Int.reduceBNe, Int.reduceLT, Int.reduceLE, Int.reduceEq, Int.reduceGT, Int.reduceGE, Int.reduceToNat, ↓reduceIte, List.reduceReplicate, Nat.reduceAdd, Nat.reduceSub, Nat.reduceMul, Nat.reduceLT, Nat.reduceLeDiff, Nat.reduceBEq, Nat.reduceEqDiff, k4, f7]
    refine ⟨by omega, _, rfl, ?_⟩
    refine ld_at1 (hrd b _ (by rw [List.length_set]; omega) _ hm4) i1_len hvi rfl ?_
    simp (config := { maxSteps := 4000000 }) only [↓sx0, ↓sx1, ↓sx2, ↓sx3, ↓sx4, ↓sx5, ↓sx6, sx0, sx1, sx2, sx3, sx4, sx5, sx6, tf82, ev3_hold, sxo, sxc, sxp, sxq, sxr, sxs, sxl, sxm, Int.reduceBEq, Int.reduceBNe, Int.reduceLT, Int.reduceLE, Int.reduceEq, Int.reduceGT, Int.reduceGE, Int.reduceToNat, ↓reduceIte, List.reduceReplicate, Nat.reduceAdd, Nat.reduceSub, Nat.reduceMul, Nat.reduceLT, Nat.reduceLeDiff, Nat.reduceBEq, Nat.reduceEqDiff, k5, f7]
    refine ⟨by omega, _, rfl, ?_⟩
    rw [← hFF, ← hOe]
    refine wr_at (A := N2 ++ N1) (l := (parR M i).set i v) (k := i) (u := (n + 1)) (List.append_assoc _ _ _).symm i1_len (by rw [List.length_set]; omega) (by rw [List.length_set]; omega) ?_
    rw [hOe, List.set_set, List.append_assoc]
    simp (config := { maxSteps := 4000000 }) only [↓sx0, ↓sx1, ↓sx2, ↓sx3, ↓sx4, ↓sx5, ↓sx6, sx0, sx1, sx2, sx3, sx4, sx5, sx6, tf82, ev3_hold, sxo, sxc, sxp, sxq, sxr, sxs, sxl, sxm, Int.reduceBEq, Int.reduceBNe, Int.reduceLT, Int.reduceLE, Int.reduceEq, Int.reduceGT, Int.reduceGE, Int.reduceToNat, ↓reduceIte, List.reduceReplicate, Nat.reduceAdd, Nat.reduceSub, Nat.reduceMul, Nat.reduceLT, Nat.reduceLeDiff, Nat.reduceBEq, Nat.reduceEqDiff, q8]
    refine ⟨k + 1, _, rfl, HImp.app _ _ _, ⟨by omega, (n + 1), ?_, rfl⟩, by omega⟩
    rw [if_pos (.inr hv1)] at hg2
    exact hg2
  have k5 : ((n + 1) < v) = False := eq_false hv1
  simp (config := { maxSteps := 4000000 }) only [↓sx0, ↓sx1, ↓sx2, ↓sx3, ↓sx4, ↓sx5, ↓sx6, sx0, sx1, sx2, sx3, sx4, sx5, sx6, tf82, ev3_hold, sxo, sxc, sxp, sxq, sxr, sxs, sxl, sxm, Int.reduceBEq, Int.reduceBNe, Int.reduceLT, Int.reduceLE, Int.reduceEq, Int.reduceGT, Int.reduceGE, Int.reduceToNat, ↓reduceIte, List.reduceReplicate, Nat.reduceAdd, Nat.reduceSub, Nat.reduceMul, Nat.reduceLT, Nat.reduceLeDiff, Nat.reduceBEq, Nat.reduceEqDiff, k4, f7]
  refine ⟨by omega, _, rfl, ?_⟩
  refine ld_at1 (hrd b _ (by rw [List.length_set]; omega) _ hm4) i1_len hvi rfl ?_
  simp (config := { maxSteps := 4000000 }) only [↓sx0, ↓sx1, ↓sx2, ↓sx3, ↓sx4, ↓sx5, ↓sx6, sx0, sx1, sx2, sx3, sx4, sx5, sx6, tf82, ev3_hold, sxo, sxc, sxp, sxq, sxr, sxs, sxl, sxm, Int.reduceBEq, Int.reduceBNe, Int.reduceLT, Int.reduceLE, Int.reduceEq, Int.reduceGT, Int.reduceGE, Int.reduceToNat, ↓reduceIte, List.reduceReplicate, Nat.reduceAdd, Nat.reduceSub, Nat.reduceMul, Nat.reduceLT, Nat.reduceLeDiff, Nat.reduceBEq, Nat.reduceEqDiff, k5, q8]
  refine ⟨k + 1, _, rfl, HImp.app _ _ _, ⟨by omega, v, ?_, hFF.symm⟩, by omega⟩
  rw [if_neg (by omega)] at hg2
  exact hg2

end Go.Proofs.YtcnjhgnlcnmagaaDoor

namespace Go.Proofs.YtcnjhgnlcnmagaaDoor
open Go.RowKit Go.SX
set_option maxRecDepth 20000
set_option maxHeartbeats 8000000
set_option linter.unusedSimpArgs false
set_option linter.unusedVariables false

/-! ### The reference's Arrive and Moves -/

theorem arr_first {c : Cht} (hok : c.ok) {g : Int} {A T i m s : Nat} (hA : A < c.depth.length) (hi : i < c.depth.length) (hs : s < m) (h0 : ∀ j, j < s → lv (mvL c g A T j) i < 0) (h1 : 0 ≤ lv (mvL c g A T s) i) : lv (arrL c g A T m) i = ((T + s : Nat) : Int) := by
  rcases arrL_get c g A T i hi m with ⟨q, q1, q2, q3, q4⟩ | ⟨q1, _⟩
  · have e1 := (mvL_set hok (g := g) (t := T) hA q i hi).2 q2
    have e2 := (mvL_set hok (g := g) (t := T) hA s i hi).1 h1
    have : q = s := by
      rcases Nat.lt_trichotomy q s with h | h | h
      · have := h0 q h
        omega
      · exact h
      · rw [q3 _ h] at e2
        cases e2
    subst this
    exact q4
  · have e2 := (mvL_set hok (g := g) (t := T) hA s i hi).1 h1
    rw [q1 _ hs] at e2
    cases e2

theorem arr_none {c : Cht} (hok : c.ok) {g : Int} {A T i m : Nat} (hA : A < c.depth.length) (hi : i < c.depth.length) (h0 : ∀ j, j < m → lv (mvL c g A T j) i < 0) : lv (arrL c g A T m) i = -1 := by
  rcases arrL_get c g A T i hi m with ⟨q, q1, q2, q3, q4⟩ | ⟨_, q1⟩
  · have e1 := (mvL_set hok (g := g) (t := T) hA q i hi).2 q2
    have := h0 q q1
    omega
  · exact q1

theorem rarrive_fn (w : World) (hw : Ways w) (v : Value) (c : Cht) (hc : ChOk w v c) (hsm : c.small) (g a t : Int) :
    SX.Fn Tryd.prog 44 [v, I g, I a, I t] w (fun _ => False) fun r N => (openE c [a] [t] [g] ≠ 0 ∧ r = .tuple #[.slice none 0 0, I (openE c [a] [t] [g])]) ∨
      (openE c [a] [t] [g] = 0 ∧ ∃ x, r = .tuple #[x, I 0] ∧ Got x 3 1 i1 (arrL c g a.toNat t.toNat (c.tide.length - t.toNat)) N) := by
  have hc0 := hc
  have hD := detR_ok (X := fun _ => False) hw hc (fun _ _ => id)
  obtain ⟨sD, sT, sS, rfl, hsD, hsT, hsS⟩ := hc
  generalize hV : (Value.agg #[I c.wide, I c.high, sD, sT, sS]) = V at hD hc0
  have dn : (∀ xs, detR V c 81 xs = none) ∧ (∀ xs, detR V c 82 xs = none) := ⟨fun _ => rfl, fun _ => rfl⟩
  subst hV
  refine walk [] [] hD Tryd.func44 rfl Tryd.ntmps44 res44 (by kernel_rfl) no_facts ?_
  simp (config := { maxSteps := 4000000 }) only [↓sx0, ↓sx1, ↓sx2, ↓sx3, ↓sx4, ↓sx5, ↓sx6, sx0, sx1, sx2, sx3, sx4, sx5, sx6, tf44, ev3_hold, sxo, sxc, sxp, sxq, sxr, sxs, sxl, sxm, Int.reduceBEq, Int.reduceBNe, Int.reduceLT, Int.reduceLE, Int.reduceEq, Int.reduceGT, Int.reduceGE, Int.reduceToNat, ↓reduceIte, List.reduceReplicate, Nat.reduceAdd, Nat.reduceSub, Nat.reduceMul, Nat.reduceLT, Nat.reduceLeDiff, Nat.reduceBEq, Nat.reduceEqDiff, dn]
  refine CallOb.pureH (fun w' hp => rchk_fn w' (hw.hp hp) _ c (hc0.hp hp) hsm g a t) ?_
  rintro r N rfl
  by_cases he : openE c [a] [t] [g] = 0
  case neg =>
    have e1 : (openE c [a] [t] [g] = 0) = False := eq_false he
    refine ⟨?_⟩
    simp (config := { maxSteps := 4000000 }) only [↓sx0, ↓sx1, ↓sx2, ↓sx3, ↓sx4, ↓sx5, ↓sx6, sx0, sx1, sx2, sx3, sx4, sx5, sx6, tf44, ev3_hold, sxo, sxc, sxp, sxq, sxr, sxs, sxl, sxm, Int.reduceBEq, Int.reduceBNe, Int.reduceLT, Int.reduceLE, Int.reduceEq, Int.reduceGT, Int.reduceGE, Int.reduceToNat, ↓reduceIte, List.reduceReplicate, Nat.reduceAdd, Nat.reduceSub, Nat.reduceMul, Nat.reduceLT, Nat.reduceLeDiff, Nat.reduceBEq, Nat.reduceEqDiff, e1]
    exact .inl trivial
  have hz := openE_zero he
  obtain ⟨hok, hcl, htl, hgl⟩ := hz
  have ha := hcl a (by simp)
  have ht := htl t (by simp)
  have hdm := hok.dims
  obtain ⟨eW, eH, hW, hH, hlen⟩ := hdm
  have h60 := hok.2.2.2.1.2
  have h144 := Nat.mul_le_mul hW.2 hH.2
  have e6 : IntKind.i64.wrap (c.wide * c.high) = (c.depth.length : Int) := by
    have h1 := hok.2.2.1
    rw [← h1]
    exact wrap_id (by omega)
  have hA' : ∃ A : Nat, a = A := ⟨a.toNat, by omega⟩
  have hT' : ∃ T : Nat, t = T := ⟨t.toNat, by omega⟩
  obtain ⟨A, hA⟩ := hA'
  obtain ⟨T, hT⟩ := hT'
  subst hA hT
  simp only [Int.toNat_natCast] at ha ht
  rw [he]
  refine ⟨?_⟩
  simp (config := { maxSteps := 4000000 }) only [↓sx0, ↓sx1, ↓sx2, ↓sx3, ↓sx4, ↓sx5, ↓sx6, sx0, sx1, sx2, sx3, sx4, sx5, sx6, tf44, ev3_hold, sxo, sxc, sxp, sxq, sxr, sxs, sxl, sxm, Int.reduceBEq, Int.reduceBNe, Int.reduceLT, Int.reduceLE, Int.reduceEq, Int.reduceGT, Int.reduceGE, Int.reduceToNat, ↓reduceIte, List.reduceReplicate, Nat.reduceAdd, Nat.reduceSub, Nat.reduceMul, Nat.reduceLT, Nat.reduceLeDiff, Nat.reduceBEq, Nat.reduceEqDiff, dn]
  refine CallOb.pureH (fun w' hp => rforth_fn w' (hw.hp hp) _ c (hc0.hp hp) hok g A T ha.2 ht.2) ?_
  rintro r1 N1 ⟨ad, cp, bs, rfl, hbl, hrow, hrows⟩
  have hM : ∃ m, c.tide.length - T = m := ⟨_, rfl⟩
  obtain ⟨m, hm⟩ := hM
  rw [hm] at hbl hrow ⊢
  have hLl := arrL_len c g A T m
  have hfst := fun i s (hi : i < c.depth.length) (hs : s < m) h0 h1 => arr_first hok (g := g) (T := T) (m := m) (s := s) ha.2 hi hs h0 h1
  have hnon := fun i (hi : i < c.depth.length) h0 => arr_none hok (g := g) (T := T) (m := m) ha.2 hi h0
  have hML := fun s => mvL_len c g A T s
  have hMg := fun s => mvL_ge hok (g := g) (k := A) (t := T) s
  generalize hLe : arrL c g A T m = L at hLl hfst hnon
  generalize hMM : (fun s => mvL c g A T s) = MM
  have hMe : ∀ s, mvL c g A T s = MM s := fun s => by rw [← hMM]
  simp only [hMe] at hfst hnon hrows hML hMg
  generalize hRR : (fun (ad : Option Addr) (n cp : Nat) (l : List Int) => HO.row (.slice ad n cp) 3 1 (ints l)) = RR
  have hRe : ∀ ad n cp l, HO.row (.slice ad n cp) 3 1 (ints l) = RR ad n cp l := fun ad n cp l => by rw [← hRR]
  have hrd : ∀ b (o : List Int), o.length = c.depth.length → ∀ G, HO.row (.slice (some ⟨b, 0, none⟩) c.depth.length c.depth.length) 3 1 (ints o) ∈ G → Rdv ⟨w, fun _ => False⟩ G (.slice (some ⟨b, 0, none⟩) c.depth.length c.depth.length) 1 (ints o) := fun b o ho G hG =>
    row_rdv (E := 3) hG ⟨_, _, _, rfl, by rw [cat_len i1_len, ho], fun h => by cases h⟩
  have hrl : ∀ G, (∀ h ∈ N1, h ∈ G) → Rdv ⟨w, fun _ => False⟩ G (.slice (some ad) m cp) 1 (cat (slN c.depth.length) bs) := fun G hG =>
    row_rdv (E := 22) (hG _ hrow) ⟨_, _, _, rfl, by rw [cat_len (slN_len _), hbl], fun h => by cases h⟩
  refine ⟨?_⟩
  simp (config := { maxSteps := 4000000 }) only [↓sx0, ↓sx1, ↓sx2, ↓sx3, ↓sx4, ↓sx5, ↓sx6, sx0, sx1, sx2, sx3, sx4, sx5, sx6, tf44, ev3_hold, sxo, sxc, sxp, sxq, sxr, sxs, sxl, sxm, Int.reduceBEq, Int.reduceBNe, Int.reduceLT, Int.reduceLE, Int.reduceEq, Int.reduceGT, Int.reduceGE, Int.reduceToNat, ↓reduceIte, List.reduceReplicate, Nat.reduceAdd, Nat.reduceSub, Nat.reduceMul, Nat.reduceLT, Nat.reduceLeDiff, Nat.reduceBEq, Nat.reduceEqDiff, dn]
  refine loop_constH (RR none 0 0 [] :: N1) (by rw [← hRe]; exact (HImp.sub (List.sublist_append_left _ _)).trans (HImp.nilRow _ _ _ _)) [(12, 15), (29, 59)] (fun s : Nat × Option Addr × Nat => [(12, .slice s.2.1 s.1 s.2.2), (13, I s.1)])
    (fun s H1 => s.1 ≤ c.depth.length ∧ (s.2.1 = none → s.1 = 0) ∧ H1 = RR s.2.1 s.1 s.2.2 (L.take s.1) :: N1) (fun s => c.depth.length - s.1) (0, none, 0) ?_ ⟨Nat.zero_le _, fun _ => rfl, rfl⟩ ?_
  · simp (config := { maxSteps := 4000000 }) only [↓sx0, ↓sx1, ↓sx2, ↓sx3, ↓sx4, ↓sx5, ↓sx6, sx0, sx1, sx2, sx3, sx4, sx5, sx6, tf44, ev3_hold, sxo, sxc, sxp, sxq, sxr, sxs, sxl, sxm, Int.reduceBEq, Int.reduceBNe, Int.reduceLT, Int.reduceLE, Int.reduceEq, Int.reduceGT, Int.reduceGE, Int.reduceToNat, ↓reduceIte, List.reduceReplicate, Nat.reduceAdd, Nat.reduceSub, Nat.reduceMul, Nat.reduceLT, Nat.reduceLeDiff, Nat.reduceBEq, Nat.reduceEqDiff]
    simp
  rintro ⟨i, ao, co⟩ H1 g1 ⟨hi, hnil, rfl⟩
  simp only [] at hi hnil
  have htl' : (L.take i).length = i := by rw [List.length_take]; omega
  by_cases hin : i = c.depth.length
  · have e7 : ((i : Int) < (c.depth.length : Int)) = False := eq_false (by omega)
    refine ⟨?_⟩
    simp (config := { maxSteps := 4000000 }) only [↓sx0, ↓sx1, ↓sx2, ↓sx3, ↓sx4, ↓sx5, ↓sx6, sx0, sx1, sx2, sx3, sx4, sx5, sx6, tf44, ev3_hold, sxo, sxc, sxp, sxq, sxr, sxs, sxl, sxm, Int.reduceBEq, Int.reduceBNe, Int.reduceLT, Int.reduceLE, Int.reduceEq, Int.reduceGT, Int.reduceGE, Int.reduceToNat, ↓reduceIte, List.reduceReplicate, Nat.reduceAdd, Nat.reduceSub, Nat.reduceMul, Nat.reduceLT, Nat.reduceLeDiff, Nat.reduceBEq, Nat.reduceEqDiff, e7, detR_eq, e6]
    refine .inr ⟨_, rfl, ?_⟩
    rw [hm, hLe, ← hRe, List.take_of_length_le (show L.length ≤ i by omega)]
    exact Got.row (by omega) List.mem_cons_self (fun h => by
      have := hnil h
      exact List.eq_nil_of_length_eq_zero (by omega))
  have e7 : ((i : Int) < (c.depth.length : Int)) = True := eq_true (by omega)
  have e8 : IntKind.i64.wrap ((i : Int) + 1) = ((i + 1 : Nat) : Int) := (wrap_id (by omega)).trans (by omega)
  refine ⟨?_⟩
  simp (config := { maxSteps := 4000000 }) only [↓sx0, ↓sx1, ↓sx2, ↓sx3, ↓sx4, ↓sx5, ↓sx6, sx0, sx1, sx2, sx3, sx4, sx5, sx6, tf44, ev3_hold, sxo, sxc, sxp, sxq, sxr, sxs, sxl, sxm, Int.reduceBEq, Int.reduceBNe, Int.reduceLT, Int.reduceLE, Int.reduceEq, Int.reduceGT, Int.reduceGE, Int.reduceToNat, ↓reduceIte, List.reduceReplicate, Nat.reduceAdd, Nat.reduceSub, Nat.reduceMul, Nat.reduceLT, Nat.reduceLeDiff, Nat.reduceBEq, Nat.reduceEqDiff, e7, detR_eq, e6]
  refine loop_constH (RR ao i co (L.take i) :: N1) (HImp.refl _ _) [(14, 15), (35, 55)] (fun s : Nat × Int => [(14, I s.2), (15, I s.1)])
    (fun s H1 => s.1 ≤ m ∧ ((s.2 = -1 ∧ ∀ j, j < s.1 → lv (MM j) i < 0) ∨ (0 ≤ s.2 ∧ s.2 = lv L i)) ∧ H1 = RR ao i co (L.take i) :: N1) (fun s => m - s.1) (0, -1) ?_ ⟨Nat.zero_le _, .inl ⟨rfl, fun j h => by omega⟩, rfl⟩ ?_
  · simp (config := { maxSteps := 4000000 }) only [↓sx0, ↓sx1, ↓sx2, ↓sx3, ↓sx4, ↓sx5, ↓sx6, sx0, sx1, sx2, sx3, sx4, sx5, sx6, tf44, ev3_hold, sxo, sxc, sxp, sxq, sxr, sxs, sxl, sxm, Int.reduceBEq, Int.reduceBNe, Int.reduceLT, Int.reduceLE, Int.reduceEq, Int.reduceGT, Int.reduceGE, Int.reduceToNat, ↓reduceIte, List.reduceReplicate, Nat.reduceAdd, Nat.reduceSub, Nat.reduceMul, Nat.reduceLT, Nat.reduceLeDiff, Nat.reduceBEq, Nat.reduceEqDiff]
    simp
  rintro ⟨s, n⟩ H1 g2 ⟨hs, hn, rfl⟩
  simp only [] at hs hn
  have hfin : (s = m ∨ ¬ n < 0) → n = lv L i := fun h => by
    rcases hn with ⟨h1, h2⟩ | ⟨h1, h2⟩
    · have hsm' : s = m := by omega
      rw [h1]
      exact (hnon i (by omega) (by rw [← hsm']; exact h2)).symm
    · exact h2
  have happ : ∀ (q : Int), q = lv L i → L.take i ++ [q] = L.take (i + 1) := fun q hq => by
    rw [List.take_add_one, getD_at (show i < L.length by omega) 0, hq]
    rfl
  by_cases hsm' : s = m
  · have f7 : ((s : Int) < (m : Int)) = False := eq_false (by omega)
    have hnL := hfin (.inl hsm')
    refine ⟨?_⟩
    simp (config := { maxSteps := 4000000 }) only [↓sx0, ↓sx1, ↓sx2, ↓sx3, ↓sx4, ↓sx5, ↓sx6, sx0, sx1, sx2, sx3, sx4, sx5, sx6, tf44, ev3_hold, sxo, sxc, sxp, sxq, sxr, sxs, sxl, sxm, Int.reduceBEq, Int.reduceBNe, Int.reduceLT, Int.reduceLE, Int.reduceEq, Int.reduceGT, Int.reduceGE, Int.reduceToNat, ↓reduceIte, List.reduceReplicate, Nat.reduceAdd, Nat.reduceSub, Nat.reduceMul, Nat.reduceLT, Nat.reduceLeDiff, Nat.reduceBEq, Nat.reduceEqDiff, f7]
    intro b2
    rw [← hRe]
    refine app_one (l := L.take i) n (HImp.refl _ _) i1_len i1_one (by omega) fun ad2 c2 => ?_
    simp (config := { maxSteps := 4000000 }) only [↓sx0, ↓sx1, ↓sx2, ↓sx3, ↓sx4, ↓sx5, ↓sx6, sx0, sx1, sx2, sx3, sx4, sx5, sx6, tf44, ev3_hold, sxo, sxc, sxp, sxq, sxr, sxs, sxl, sxm, Int.reduceBEq, Int.reduceBNe, Int.reduceLT, Int.reduceLE, Int.reduceEq, Int.reduceGT, Int.reduceGE, Int.reduceToNat, ↓reduceIte, List.reduceReplicate, Nat.reduceAdd, Nat.reduceSub, Nat.reduceMul, Nat.reduceLT, Nat.reduceLeDiff, Nat.reduceBEq, Nat.reduceEqDiff, e8]
    rw [happ n hnL, htl', hRe]
    exact ⟨(i + 1, some ad2, c2), _, ⟨rfl, rfl⟩, HImp.refl _ _, ⟨by omega, fun h => (by cases h), rfl⟩, by omega⟩
  have f7 : ((s : Int) < (m : Int)) = True := eq_true (by omega)
  by_cases hn0 : n < 0
  case neg =>
    have f6 : (n < 0) = False := eq_false hn0
    have hnL := hfin (.inr hn0)
    refine ⟨?_⟩
    simp (config := { maxSteps := 4000000 }) only [↓sx0, ↓sx1, ↓sx2, ↓sx3, ↓sx4, ↓sx5, ↓sx6, sx0, sx1, sx2, sx3, sx4, sx5, sx6, tf44, ev3_hold, sxo, sxc, sxp, sxq, sxr, sxs, sxl, sxm, Int.reduceBEq, Int.reduceBNe, Int.reduceLT, Int.reduceLE, Int.reduceEq, Int.reduceGT, Int.reduceGE, Int.reduceToNat, ↓reduceIte, List.reduceReplicate, Nat.reduceAdd, Nat.reduceSub, Nat.reduceMul, Nat.reduceLT, Nat.reduceLeDiff, Nat.reduceBEq, Nat.reduceEqDiff, f7, f6]
    intro b2
    rw [← hRe]
    refine app_one (l := L.take i) n (HImp.refl _ _) i1_len i1_one (by omega) fun ad2 c2 => ?_
    simp (config := { maxSteps := 4000000 }) only [↓sx0, ↓sx1, ↓sx2, ↓sx3, ↓sx4, ↓sx5, ↓sx6, sx0, sx1, sx2, sx3, sx4, sx5, sx6, tf44, ev3_hold, sxo, sxc, sxp, sxq, sxr, sxs, sxl, sxm, Int.reduceBEq, Int.reduceBNe, Int.reduceLT, Int.reduceLE, Int.reduceEq, Int.reduceGT, Int.reduceGE, Int.reduceToNat, ↓reduceIte, List.reduceReplicate, Nat.reduceAdd, Nat.reduceSub, Nat.reduceMul, Nat.reduceLT, Nat.reduceLeDiff, Nat.reduceBEq, Nat.reduceEqDiff, e8]
    rw [happ n hnL, htl', hRe]
    exact ⟨(i + 1, some ad2, c2), _, ⟨rfl, rfl⟩, HImp.refl _ _, ⟨by omega, fun h => (by cases h), rfl⟩, by omega⟩
  have f6 : (n < 0) = True := eq_true hn0
  have hnm : n = -1 ∧ ∀ j, j < s → lv (MM j) i < 0 := by
    rcases hn with h | ⟨h, _⟩
    · exact h
    · omega
  obtain ⟨b, hb⟩ : ∃ b, bs[s]? = some b := ⟨_, List.getElem?_eq_getElem (by omega)⟩
  have hrb := hrows s b hb
  have hui : (MM s)[i]? = some (lv (MM s) i) := getD_at (by rw [hML]; omega) 0
  have f8 : IntKind.i64.wrap ((s : Int) + 1) = ((s + 1 : Nat) : Int) := (wrap_id (by omega)).trans (by omega)
  have f9 : IntKind.i64.wrap ((T : Int) + (s : Int)) = ((T + s : Nat) : Int) := (wrap_id (by omega)).trans (by omega)
  refine ⟨?_⟩
  simp (config := { maxSteps := 4000000 }) only [↓sx0, ↓sx1, ↓sx2, ↓sx3, ↓sx4, ↓sx5, ↓sx6, sx0, sx1, sx2, sx3, sx4, sx5, sx6, tf44, ev3_hold, sxo, sxc, sxp, sxq, sxr, sxs, sxl, sxm, Int.reduceBEq, Int.reduceBNe, Int.reduceLT, Int.reduceLE, Int.reduceEq, Int.reduceGT, Int.reduceGE, Int.reduceToNat, ↓reduceIte, List.reduceReplicate, Nat.reduceAdd, Nat.reduceSub, Nat.reduceMul, Nat.reduceLT, Nat.reduceLeDiff, Nat.reduceBEq, Nat.reduceEqDiff, f7, f6]
  refine amid (at_1 (hrl _ (fun h hh => List.mem_cons_of_mem _ hh)) (slN_len _) hb rfl fun ad3 => ?_)
  simp (config := { maxSteps := 4000000 }) only [↓sx0, ↓sx1, ↓sx2, ↓sx3, ↓sx4, ↓sx5, ↓sx6, sx0, sx1, sx2, sx3, sx4, sx5, sx6, tf44, ev3_hold, sxo, sxc, sxp, sxq, sxr, sxs, sxl, sxm, Int.reduceBEq, Int.reduceBNe, Int.reduceLT, Int.reduceLE, Int.reduceEq, Int.reduceGT, Int.reduceGE, Int.reduceToNat, ↓reduceIte, List.reduceReplicate, Nat.reduceAdd, Nat.reduceSub, Nat.reduceMul, Nat.reduceLT, Nat.reduceLeDiff, Nat.reduceBEq, Nat.reduceEqDiff, e7]
  refine ⟨by omega, _, rfl, ?_⟩
  refine ld_at1 (hrd b _ (hML s) _ (List.mem_cons_of_mem _ hrb)) i1_len hui rfl ?_
  by_cases hk : lv (MM s) i ≥ 0
  · have k1 : (lv (MM s) i ≥ 0) = True := eq_true hk
    have hLi := hfst i s (by omega) (by omega) hnm.2 hk
    simp (config := { maxSteps := 4000000 }) only [↓sx0, ↓sx1, ↓sx2, ↓sx3, ↓sx4, ↓sx5, ↓sx6, sx0, sx1, sx2, sx3, sx4, sx5, sx6, tf44, ev3_hold, sxo, sxc, sxp, sxq, sxr, sxs, sxl, sxm, Int.reduceBEq, Int.reduceBNe, Int.reduceLT, Int.reduceLE, Int.reduceEq, Int.reduceGT, Int.reduceGE, Int.reduceToNat, ↓reduceIte, List.reduceReplicate, Nat.reduceAdd, Nat.reduceSub, Nat.reduceMul, Nat.reduceLT, Nat.reduceLeDiff, Nat.reduceBEq, Nat.reduceEqDiff, k1, f9, f8]
    exact ⟨(s + 1, ((T + s : Nat) : Int)), _, ⟨rfl, rfl⟩, HImp.refl _ _, ⟨by omega, .inr ⟨by omega, hLi.symm⟩, rfl⟩, by omega⟩
  · have k1 : (lv (MM s) i ≥ 0) = False := eq_false hk
    simp (config := { maxSteps := 4000000 }) only [↓sx0, ↓sx1, ↓sx2, ↓sx3, ↓sx4, ↓sx5, ↓sx6, sx0, sx1, sx2, sx3, sx4, sx5, sx6, tf44, ev3_hold, sxo, sxc, sxp, sxq, sxr, sxs, sxl, sxm, Int.reduceBEq, Int.reduceBNe, Int.reduceLT, Int.reduceLE, Int.reduceEq, Int.reduceGT, Int.reduceGE, Int.reduceToNat, ↓reduceIte, List.reduceReplicate, Nat.reduceAdd, Nat.reduceSub, Nat.reduceMul, Nat.reduceLT, Nat.reduceLeDiff, Nat.reduceBEq, Nat.reduceEqDiff, k1, f8]
    refine ⟨(s + 1, n), _, ⟨rfl, rfl⟩, HImp.refl _ _, ⟨by omega, .inl ⟨hnm.1, fun j hj => ?_⟩, rfl⟩, by omega⟩
    by_cases h : j < s
    · exact hnm.2 j h
    · rw [show j = s by omega]
      omega

theorem rmoves_fn (w : World) (hw : Ways w) (v : Value) (c : Cht) (hc : ChOk w v c) (hsm : c.small) (g a t u : Int) :
    SX.Fn Tryd.prog 50 [v, I g, I a, I t, I u] w (fun _ => False) fun r N => (openE c [a] [t, u] [g] ≠ 0 ∧ r = .tuple #[.slice none 0 0, I (openE c [a] [t, u] [g])]) ∨
      (openE c [a] [t, u] [g] = 0 ∧ ∃ x, r = .tuple #[x, I 0] ∧ Got x 3 1 i1 (mvR c g a.toNat t u) N) := by
  have hc0 := hc
  have hD := detR_ok (X := fun _ => False) hw hc (fun _ _ => id)
  obtain ⟨sD, sT, sS, rfl, hsD, hsT, hsS⟩ := hc
  obtain ⟨aT, nT, cT, rfl⟩ := hsT.shape
  have hnT := hsT.le spc_len (by omega)
  generalize hV : (Value.agg #[I c.wide, I c.high, sD, .slice aT nT cT, sS]) = V at hD hc0
  have dn : (∀ xs, detR V c 81 xs = none) ∧ (∀ xs, detR V c 82 xs = none) := ⟨fun _ => rfl, fun _ => rfl⟩
  subst hV
  have hEu : openE c [a] [t, u] [g] = if openE c [a] [t] [g] = 0 then (if notTick c u then 1 else 0) else openE c [a] [t] [g] := by
    unfold openE
    cases c.okB <;> cases h1 : notCell c a <;> cases h2 : notTick c t <;> cases h3 : notTick c u <;> cases h4 : notDraught g <;> simp [h1, h2, h3, h4]
  refine walk [] [] hD Tryd.func50 rfl Tryd.ntmps50 res50 (by kernel_rfl) no_facts ?_
  simp (config := { maxSteps := 4000000 }) only [↓sx0, ↓sx1, ↓sx2, ↓sx3, ↓sx4, ↓sx5, ↓sx6, sx0, sx1, sx2, sx3, sx4, sx5, sx6, tf50, ev3_hold, sxo, sxc, sxp, sxq, sxr, sxs, sxl, sxm, Int.reduceBEq, Int.reduceBNe, Int.reduceLT, Int.reduceLE, Int.reduceEq, Int.reduceGT, Int.reduceGE, Int.reduceToNat, ↓reduceIte, List.reduceReplicate, Nat.reduceAdd, Nat.reduceSub, Nat.reduceMul, Nat.reduceLT, Nat.reduceLeDiff, Nat.reduceBEq, Nat.reduceEqDiff, dn]
  refine CallOb.pureH (fun w' hp => rchk_fn w' (hw.hp hp) _ c (hc0.hp hp) hsm g a t) ?_
  rintro r N rfl
  by_cases he : openE c [a] [t] [g] = 0
  case neg =>
    have e1 : (openE c [a] [t] [g] = 0) = False := eq_false he
    rw [if_neg he] at hEu
    refine ⟨?_⟩
    simp (config := { maxSteps := 4000000 }) only [↓sx0, ↓sx1, ↓sx2, ↓sx3, ↓sx4, ↓sx5, ↓sx6, sx0, sx1, sx2, sx3, sx4, sx5, sx6, tf50, ev3_hold, sxo, sxc, sxp, sxq, sxr, sxs, sxl, sxm, Int.reduceBEq, Int.reduceBNe, Int.reduceLT, Int.reduceLE, Int.reduceEq, Int.reduceGT, Int.reduceGE, Int.reduceToNat, ↓reduceIte, List.reduceReplicate, Nat.reduceAdd, Nat.reduceSub, Nat.reduceMul, Nat.reduceLT, Nat.reduceLeDiff, Nat.reduceBEq, Nat.reduceEqDiff, e1]
    refine .inl ⟨by rw [hEu]; exact he, by rw [hEu]⟩
  rw [if_pos he] at hEu
  have hz := openE_zero he
  obtain ⟨hok, hcl, htl, hgl⟩ := hz
  have ha := hcl a (by simp)
  have ht := htl t (by simp)
  have hdm := hok.dims
  obtain ⟨eW, eH, hW, hH, hlen⟩ := hdm
  have h60 := hok.2.2.2.1.2
  have h144 := Nat.mul_le_mul hW.2 hH.2
  have e5 : IntKind.i64.wrap ((nT : Int) - 1) = (c.tide.length : Int) - 1 := (wrap_id (by omega)).trans (by omega)
  have e6 : IntKind.i64.wrap (c.wide * c.high) = (c.depth.length : Int) := by
    have h1 := hok.2.2.1
    rw [← h1]
    exact wrap_id (by omega)
  have hui : inB u 0 ((c.tide.length : Int) - 1) = !notTick c u := by unfold notTick; simp
  rw [he]
  cases hu : notTick c u with
  | true =>
    rw [hu] at hui
    rw [hu, if_pos rfl] at hEu
    refine ⟨?_⟩
    simp (config := { maxSteps := 4000000 }) only [↓sx0, ↓sx1, ↓sx2, ↓sx3, ↓sx4, ↓sx5, ↓sx6, sx0, sx1, sx2, sx3, sx4, sx5, sx6, tf50, ev3_hold, sxo, sxc, sxp, sxq, sxr, sxs, sxl, sxm, Int.reduceBEq, Int.reduceBNe, Int.reduceLT, Int.reduceLE, Int.reduceEq, Int.reduceGT, Int.reduceGE, Int.reduceToNat, ↓reduceIte, List.reduceReplicate, Nat.reduceAdd, Nat.reduceSub, Nat.reduceMul, Nat.reduceLT, Nat.reduceLeDiff, Nat.reduceBEq, Nat.reduceEqDiff, detR_eq, e5, hui]
    exact .inl ⟨by rw [hEu]; decide, by rw [hEu]⟩
  | false =>
  rw [hu] at hui
  rw [hu] at hEu
  simp only [Bool.false_eq_true, if_false] at hEu
  have ku := tick_of hu
  have hA' : ∃ A : Nat, a = A := ⟨a.toNat, by omega⟩
  have hT' : ∃ T : Nat, t = T := ⟨t.toNat, by omega⟩
  obtain ⟨A, hA⟩ := hA'
  obtain ⟨T, hT⟩ := hT'
  obtain ⟨U, hU, hUl⟩ := ku
  subst hA hT hU
  simp only [Int.toNat_natCast] at ha ht
  by_cases hut : U < T
  · have f1 : ((U : Int) < (T : Int)) = True := eq_true (by omega)
    have hm : mvR c g A T U = List.replicate c.depth.length (-1) := if_pos (by omega)
    refine ⟨?_⟩
    simp (config := { maxSteps := 4000000 }) only [↓sx0, ↓sx1, ↓sx2, ↓sx3, ↓sx4, ↓sx5, ↓sx6, sx0, sx1, sx2, sx3, sx4, sx5, sx6, tf50, ev3_hold, sxo, sxc, sxp, sxq, sxr, sxs, sxl, sxm, Int.reduceBEq, Int.reduceBNe, Int.reduceLT, Int.reduceLE, Int.reduceEq, Int.reduceGT, Int.reduceGE, Int.reduceToNat, ↓reduceIte, List.reduceReplicate, Nat.reduceAdd, Nat.reduceSub, Nat.reduceMul, Nat.reduceLT, Nat.reduceLeDiff, Nat.reduceBEq, Nat.reduceEqDiff, detR_eq, e5, hui, f1, e6]
    refine ⟨by omega, by omega, by omega, fun b => ?_⟩
    rw [show zerosL c.depth.length [Value.int .i64 0] = ints (List.replicate c.depth.length 0) from zeros_cat i1 0 _]
    have hZ : ∀ i, (List.replicate i (-1 : Int) ++ List.replicate (c.depth.length - i) 0).length = i + (c.depth.length - i) := fun i => by simp
    refine loop_constH [HO.row (.slice (some ⟨b, 0, none⟩) c.depth.length c.depth.length) 3 1 (ints (List.replicate 0 (-1) ++ List.replicate (c.depth.length - 0) 0))] (HImp.sub (List.singleton_sublist.2 List.mem_cons_self)) [(14, 14), (33, 41)] (fun i : Nat => [(14, I i)])
      (fun i H1 => i ≤ c.depth.length ∧ H1 = [HO.row (.slice (some ⟨b, 0, none⟩) c.depth.length c.depth.length) 3 1 (ints (List.replicate i (-1) ++ List.replicate (c.depth.length - i) 0))]) (fun i => c.depth.length - i) 0 ?_ ⟨Nat.zero_le _, rfl⟩ ?_
    · simp (config := { maxSteps := 4000000 }) only [↓sx0, ↓sx1, ↓sx2, ↓sx3, ↓sx4, ↓sx5, ↓sx6, sx0, sx1, sx2, sx3, sx4, sx5, sx6, tf50, ev3_hold, sxo, sxc, sxp, sxq, sxr, sxs, sxl, sxm, Int.reduceBEq, Int.reduceBNe, Int.reduceLT, Int.reduceLE, Int.reduceEq, Int.reduceGT, Int.reduceGE, Int.reduceToNat, ↓reduceIte, List.reduceReplicate, Nat.reduceAdd, Nat.reduceSub, Nat.reduceMul, Nat.reduceLT, Nat.reduceLeDiff, Nat.reduceBEq, Nat.reduceEqDiff]
      simp
    rintro i H1 g1 ⟨hi, rfl⟩
    by_cases hin : i = c.depth.length
    · have e7 : ((i : Int) < (c.depth.length : Int)) = False := eq_false (by omega)
      refine ⟨?_⟩
      simp (config := { maxSteps := 4000000 }) only [↓sx0, ↓sx1, ↓sx2, ↓sx3, ↓sx4, ↓sx5, ↓sx6, sx0, sx1, sx2, sx3, sx4, sx5, sx6, tf50, ev3_hold, sxo, sxc, sxp, sxq, sxr, sxs, sxl, sxm, Int.reduceBEq, Int.reduceBNe, Int.reduceLT, Int.reduceLE, Int.reduceEq, Int.reduceGT, Int.reduceGE, Int.reduceToNat, ↓reduceIte, List.reduceReplicate, Nat.reduceAdd, Nat.reduceSub, Nat.reduceMul, Nat.reduceLT, Nat.reduceLeDiff, Nat.reduceBEq, Nat.reduceEqDiff, e7]
      refine .inr ⟨by rw [hEu], _, rfl, ?_⟩
      rw [hm, hin, Nat.sub_self, List.replicate_zero, List.append_nil]
      exact Got.row (by simp) List.mem_cons_self (fun h => by cases h)
    have e7 : ((i : Int) < (c.depth.length : Int)) = True := eq_true (by omega)
    have e8 : IntKind.i64.wrap ((i : Int) + 1) = ((i + 1 : Nat) : Int) := (wrap_id (by omega)).trans (by omega)
    refine ⟨?_⟩
    simp (config := { maxSteps := 4000000 }) only [↓sx0, ↓sx1, ↓sx2, ↓sx3, ↓sx4, ↓sx5, ↓sx6, sx0, sx1, sx2, sx3, sx4, sx5, sx6, tf50, ev3_hold, sxo, sxc, sxp, sxq, sxr, sxs, sxl, sxm, Int.reduceBEq, Int.reduceBNe, Int.reduceLT, Int.reduceLE, Int.reduceEq, Int.reduceGT, Int.reduceGE, Int.reduceToNat, ↓reduceIte, List.reduceReplicate, Nat.reduceAdd, Nat.reduceSub, Nat.reduceMul, Nat.reduceLT, Nat.reduceLeDiff, Nat.reduceBEq, Nat.reduceEqDiff, e7]
    refine ⟨by omega, _, rfl, ?_⟩
    refine wr_at (A := []) (k := i) (u := (-1 : Int)) rfl i1_len (by rw [hZ]; omega) (by rw [hZ]; omega) ?_
    simp (config := { maxSteps := 4000000 }) only [↓sx0, ↓sx1, ↓sx2, ↓sx3, ↓sx4, ↓sx5, ↓sx6, sx0, sx1, sx2, sx3, sx4, sx5, sx6, tf50, ev3_hold, sxo, sxc, sxp, sxq, sxr, sxs, sxl, sxm, Int.reduceBEq, Int.reduceBNe, Int.reduceLT, Int.reduceLE, Int.reduceEq, Int.reduceGT, Int.reduceGE, Int.reduceToNat, ↓reduceIte, List.reduceReplicate, Nat.reduceAdd, Nat.reduceSub, Nat.reduceMul, Nat.reduceLT, Nat.reduceLeDiff, Nat.reduceBEq, Nat.reduceEqDiff, e8]
    refine ⟨i + 1, _, rfl, HImp.refl _ _, ⟨by omega, ?_⟩, by omega⟩
    rw [List.set_append_right _ _ (by simp), List.length_replicate, Nat.sub_self, show c.depth.length - i = (c.depth.length - (i + 1)) + 1 by omega, List.replicate_succ, List.set_cons_zero, List.replicate_succ' (n := i), List.append_assoc]
    rfl
  have f1 : ((U : Int) < (T : Int)) = False := eq_false (by omega)
  have f2 : IntKind.i64.wrap ((U : Int) - (T : Int)) = ((U - T : Nat) : Int) := (wrap_id (by omega)).trans (by omega)
  have hm : mvR c g A T U = mvL c g A T (U - T) := by
    unfold mvR
    rw [if_neg (by omega), show ((U : Int) - (T : Int)).toNat = U - T by omega, Int.toNat_natCast]
  refine ⟨?_⟩
  simp (config := { maxSteps := 4000000 }) only [↓sx0, ↓sx1, ↓sx2, ↓sx3, ↓sx4, ↓sx5, ↓sx6, sx0, sx1, sx2, sx3, sx4, sx5, sx6, tf50, ev3_hold, sxo, sxc, sxp, sxq, sxr, sxs, sxl, sxm, Int.reduceBEq, Int.reduceBNe, Int.reduceLT, Int.reduceLE, Int.reduceEq, Int.reduceGT, Int.reduceGE, Int.reduceToNat, ↓reduceIte, List.reduceReplicate, Nat.reduceAdd, Nat.reduceSub, Nat.reduceMul, Nat.reduceLT, Nat.reduceLeDiff, Nat.reduceBEq, Nat.reduceEqDiff, detR_eq, e5, hui, f1, dn]
  refine CallOb.pureH (fun w' hp => rforth_fn w' (hw.hp hp) _ c (hc0.hp hp) hok g A T ha.2 ht.2) ?_
  rintro r1 N1 ⟨ad, cp, bs, rfl, hbl, hrow, hrows⟩
  obtain ⟨b, hb⟩ : ∃ b, bs[U - T]? = some b := ⟨_, List.getElem?_eq_getElem (by omega)⟩
  have hrb := hrows _ b hb
  refine ⟨?_⟩
  simp (config := { maxSteps := 4000000 }) only [↓sx0, ↓sx1, ↓sx2, ↓sx3, ↓sx4, ↓sx5, ↓sx6, sx0, sx1, sx2, sx3, sx4, sx5, sx6, tf50, ev3_hold, sxo, sxc, sxp, sxq, sxr, sxs, sxl, sxm, Int.reduceBEq, Int.reduceBNe, Int.reduceLT, Int.reduceLE, Int.reduceEq, Int.reduceGT, Int.reduceGE, Int.reduceToNat, ↓reduceIte, List.reduceReplicate, Nat.reduceAdd, Nat.reduceSub, Nat.reduceMul, Nat.reduceLT, Nat.reduceLeDiff, Nat.reduceBEq, Nat.reduceEqDiff, f2]
  refine at_1 (row_rdv (E := 22) (List.mem_append_left _ hrow) ⟨_, _, _, rfl, by rw [cat_len (slN_len _), hbl], fun h => by cases h⟩) (slN_len _) hb rfl fun ad3 => ?_
  simp (config := { maxSteps := 4000000 }) only [↓sx0, ↓sx1, ↓sx2, ↓sx3, ↓sx4, ↓sx5, ↓sx6, sx0, sx1, sx2, sx3, sx4, sx5, sx6, tf50, ev3_hold, sxo, sxc, sxp, sxq, sxr, sxs, sxl, sxm, Int.reduceBEq, Int.reduceBNe, Int.reduceLT, Int.reduceLE, Int.reduceEq, Int.reduceGT, Int.reduceGE, Int.reduceToNat, ↓reduceIte, List.reduceReplicate, Nat.reduceAdd, Nat.reduceSub, Nat.reduceMul, Nat.reduceLT, Nat.reduceLeDiff, Nat.reduceBEq, Nat.reduceEqDiff]
  refine .inr ⟨by rw [hEu], _, rfl, ?_⟩
  rw [hm]
  exact Got.row (mvL_len ..) (List.mem_append_left _ hrb) (fun h => by cases h)

end Go.Proofs.YtcnjhgnlcnmagaaDoor

namespace Go.Proofs.YtcnjhgnlcnmagaaDoor
open Go.RowKit Go.SX
set_option maxRecDepth 20000
set_option maxHeartbeats 8000000
set_option linter.unusedSimpArgs false
set_option linter.unusedVariables false

/-! ### The reference's Passage -/

def bsP (Mp : List Int) (ys : List Nat) (m : Int) : Prop := ∃ y : Nat, y ∈ ys ∧ 0 ≤ lv Mp y ∧ m = y

theorem bs_skip {Mp : List Int} {ys : List Nat} {y : Nat} {v : Int} (h : Lst (bsP Mp ys) v) (hn : ¬ 0 ≤ lv Mp y) : Lst (bsP Mp (ys ++ [y])) v := by
  refine h.congr fun m => ⟨fun ⟨z, h1, h2⟩ => ⟨z, List.mem_append_left _ h1, h2⟩, fun ⟨z, h1, h2, h3⟩ => ?_⟩
  rcases List.mem_append.1 h1 with h1 | h1
  · exact ⟨z, h1, h2, h3⟩
  · rw [List.mem_singleton] at h1
    subst h1
    exact absurd h2 hn

theorem bs_more {Mp : List Int} {ys : List Nat} {y : Nat} {v : Int} (h : Lst (bsP Mp ys) v) (hn : 0 ≤ lv Mp y) : Lst (bsP Mp (ys ++ [y])) (if v = -1 ∨ (y : Int) < v then (y : Int) else v) := by
  refine (h.more (n := (y : Int)) (by omega)).congr fun m => ?_
  constructor
  · rintro (⟨z, h1, h2⟩ | rfl)
    · exact ⟨z, List.mem_append_left _ h1, h2⟩
    · exact ⟨y, by simp, hn, rfl⟩
  · rintro ⟨z, h1, h2, h3⟩
    rcases List.mem_append.1 h1 with h1 | h1
    · exact .inl ⟨z, h1, h2, h3⟩
    · rw [List.mem_singleton] at h1
      subst h1
      exact .inr h3

theorem bs_least {S : List Bool} {Mp : List Int} {ys : List Nat} {n : Nat} (hy : ∀ y ∈ ys, y < n) (he : ∀ y, y < n → (0 ≤ lv Mp y ↔ S.getD y false = true)) (hex : ∃ y ∈ ys, S.getD y false = true) : Lst (bsP Mp ys) (leastN S ys n : Nat) := by
  obtain ⟨y, h1, h2⟩ := hex
  have h3 := leastN_in ⟨y, h1, h2, hy y h1⟩
  refine .inr ⟨by omega, ⟨_, h3.1, (he _ (hy _ h3.1)).2 h3.2, rfl⟩, ?_⟩
  rintro m ⟨z, k1, k2, rfl⟩
  have := leastN_min S ys n z k1 ((he _ (hy _ k1)).1 k2)
  omega

theorem rpassage_fn (w : World) (hw : Ways w) (v : Value) (c : Cht) (hc : ChOk w v c) (hsm : c.small) (g a t b : Int) :
    SX.Fn Tryd.prog 46 [v, I g, I a, I t, I b] w (fun _ => False) fun r N => (openE c [a, b] [t] [g] ≠ 0 ∧ r = .tuple #[.slice none 0 0, I (openE c [a, b] [t] [g])]) ∨
      (openE c [a, b] [t] [g] = 0 ∧ ((∃ i x, i < c.tide.length - t.toNat ∧ (setN c g a.toNat t.toNat i).getD b.toNat false = true ∧ (∀ j, j < i → (setN c g a.toNat t.toNat j).getD b.toNat false = false) ∧ r = .tuple #[x, I 0] ∧ Got x 3 1 i1 (nts (pth c (setL c g a.toNat t.toNat (i + 1)) b.toNat i)) N) ∨
        ((∀ j, j < c.tide.length - t.toNat → (setN c g a.toNat t.toNat j).getD b.toNat false = false) ∧ r = .tuple #[.slice none 0 0, I 3]))) := by
  have hc0 := hc
  have hD := detR_ok (X := fun _ => False) hw hc (fun _ _ => id)
  obtain ⟨sD, sT, sS, rfl, hsD, hsT, hsS⟩ := hc
  generalize hV : (Value.agg #[I c.wide, I c.high, sD, sT, sS]) = V at hD hc0
  have dn : (∀ xs, detR V c 44 xs = none) ∧ (∀ xs, detR V c 82 xs = none) ∧ (∀ xs, detR V c 83 xs = none) := ⟨fun _ => rfl, fun _ => rfl, fun _ => rfl⟩
  subst hV
  have hEu : openE c [a, b] [t] [g] = if openE c [a] [t] [g] = 0 then (if notCell c b then 1 else 0) else openE c [a] [t] [g] := by
    unfold openE
    cases c.okB <;> cases h1 : notCell c a <;> cases h2 : notTick c t <;> cases h3 : notCell c b <;> cases h4 : notDraught g <;> simp [h1, h2, h3, h4]
  refine walk [] [] hD Tryd.func46 rfl Tryd.ntmps46 res46 (by kernel_rfl) no_facts ?_
  simp (config := { maxSteps := 4000000 }) only [↓sx0, ↓sx1, ↓sx2, ↓sx3, ↓sx4, ↓sx5, ↓sx6, sx0, sx1, sx2, sx3, sx4, sx5, sx6, tf46, ev3_hold, sxo, sxc, sxp, sxq, sxr, sxs, sxl, sxm, Int.reduceBEq, Int.reduceBNe, Int.reduceLT, Int.reduceLE, Int.reduceEq, Int.reduceGT, Int.reduceGE, Int.reduceToNat, ↓reduceIte, List.reduceReplicate, Nat.reduceAdd, Nat.reduceSub, Nat.reduceMul, Nat.reduceLT, Nat.reduceLeDiff, Nat.reduceBEq, Nat.reduceEqDiff, dn]
  refine CallOb.pureH (fun w' hp => rarrive_fn w' (hw.hp hp) _ c (hc0.hp hp) hsm g a t) ?_
  rintro r N0 (⟨he, rfl⟩ | ⟨he, x0, rfl, hgx⟩)
  · have e1 : (openE c [a] [t] [g] = 0) = False := eq_false he
    rw [if_neg he] at hEu
    refine ⟨?_⟩
    simp (config := { maxSteps := 4000000 }) only [↓sx0, ↓sx1, ↓sx2, ↓sx3, ↓sx4, ↓sx5, ↓sx6, sx0, sx1, sx2, sx3, sx4, sx5, sx6, tf46, ev3_hold, sxo, sxc, sxp, sxq, sxr, sxs, sxl, sxm, Int.reduceBEq, Int.reduceBNe, Int.reduceLT, Int.reduceLE, Int.reduceEq, Int.reduceGT, Int.reduceGE, Int.reduceToNat, ↓reduceIte, List.reduceReplicate, Nat.reduceAdd, Nat.reduceSub, Nat.reduceMul, Nat.reduceLT, Nat.reduceLeDiff, Nat.reduceBEq, Nat.reduceEqDiff, e1]
    refine .inl ⟨by rw [hEu]; exact he, by rw [hEu]⟩
  rw [if_pos he] at hEu
  have hz := openE_zero he
  obtain ⟨hok, hcl, htl, hgl⟩ := hz
  have ha := hcl a (by simp)
  have ht := htl t (by simp)
  have hdm := hok.dims
  obtain ⟨eW, eH, hW, hH, hlen⟩ := hdm
  have h60 := hok.2.2.2.1.2
  have h144 := Nat.mul_le_mul hW.2 hH.2
  have icb := isCell_iff hok b
  cases hb : notCell c b with
  | true =>
    rw [hb] at icb
    rw [hb, if_pos rfl] at hEu
    refine ⟨?_⟩
    simp (config := { maxSteps := 4000000 }) only [↓sx0, ↓sx1, ↓sx2, ↓sx3, ↓sx4, ↓sx5, ↓sx6, sx0, sx1, sx2, sx3, sx4, sx5, sx6, tf46, ev3_hold, sxo, sxc, sxp, sxq, sxr, sxs, sxl, sxm, Int.reduceBEq, Int.reduceBNe, Int.reduceLT, Int.reduceLE, Int.reduceEq, Int.reduceGT, Int.reduceGE, Int.reduceToNat, ↓reduceIte, List.reduceReplicate, Nat.reduceAdd, Nat.reduceSub, Nat.reduceMul, Nat.reduceLT, Nat.reduceLeDiff, Nat.reduceBEq, Nat.reduceEqDiff, detR_eq, icb]
    exact .inl ⟨by rw [hEu]; decide, by rw [hEu]⟩
  | false =>
  rw [hb] at icb
  rw [hb] at hEu
  simp only [Bool.false_eq_true, if_false] at hEu
  have kb := cell_of hb
  have hA' : ∃ A : Nat, a = A := ⟨a.toNat, by omega⟩
  have hT' : ∃ T : Nat, t = T := ⟨t.toNat, by omega⟩
  obtain ⟨A, hA⟩ := hA'
  obtain ⟨T, hT⟩ := hT'
  obtain ⟨B, hB, hBl⟩ := kb
  subst hA hT hB
  simp only [Int.toNat_natCast] at ha ht hgx
  have hLl := arrL_len c g A T (c.tide.length - T)
  have hget := arrL_get c g A T B hBl (c.tide.length - T)
  change (∃ i, i < c.tide.length - T ∧ (setN c g A T i).getD B false = true ∧ (∀ j, j < i → (setN c g A T j).getD B false = false) ∧ lv (arrL c g A T (c.tide.length - T)) B = ((T + i : Nat) : Int)) ∨ ((∀ i, i < c.tide.length - T → (setN c g A T i).getD B false = false) ∧ lv (arrL c g A T (c.tide.length - T)) B = -1) at hget
  generalize arrL c g A T (c.tide.length - T) = L at hLl hget hgx
  have hx := hgx.shape
  obtain ⟨adx, cx, rfl⟩ := hx
  have huB : L[B]? = some (lv L B) := getD_at (by omega) 0
  rcases hget with ⟨i, hi, hin, hfst, hLB⟩ | ⟨hnone, hLB⟩
  case inr =>
    rw [hLB] at huB
    refine ⟨?_⟩
    simp (config := { maxSteps := 4000000 }) only [↓sx0, ↓sx1, ↓sx2, ↓sx3, ↓sx4, ↓sx5, ↓sx6, sx0, sx1, sx2, sx3, sx4, sx5, sx6, tf46, ev3_hold, sxo, sxc, sxp, sxq, sxr, sxs, sxl, sxm, Int.reduceBEq, Int.reduceBNe, Int.reduceLT, Int.reduceLE, Int.reduceEq, Int.reduceGT, Int.reduceGE, Int.reduceToNat, ↓reduceIte, List.reduceReplicate, Nat.reduceAdd, Nat.reduceSub, Nat.reduceMul, Nat.reduceLT, Nat.reduceLeDiff, Nat.reduceBEq, Nat.reduceEqDiff, detR_eq, icb]
    refine at_1 (hgx.rdv i1_len (fun h hh => hh)) i1_len huB rfl fun ad1 => ?_
    simp (config := { maxSteps := 4000000 }) only [↓sx0, ↓sx1, ↓sx2, ↓sx3, ↓sx4, ↓sx5, ↓sx6, sx0, sx1, sx2, sx3, sx4, sx5, sx6, tf46, ev3_hold, sxo, sxc, sxp, sxq, sxr, sxs, sxl, sxm, Int.reduceBEq, Int.reduceBNe, Int.reduceLT, Int.reduceLE, Int.reduceEq, Int.reduceGT, Int.reduceGE, Int.reduceToNat, ↓reduceIte, List.reduceReplicate, Nat.reduceAdd, Nat.reduceSub, Nat.reduceMul, Nat.reduceLT, Nat.reduceLeDiff, Nat.reduceBEq, Nat.reduceEqDiff]
    exact .inr ⟨by rw [hEu], .inr hnone⟩
  rw [hLB] at huB
  have f1 : (((T + i : Nat) : Int) < 0) = False := eq_false (by omega)
  have f2 : IntKind.i64.wrap (((T + i : Nat) : Int) - (T : Int)) = (i : Int) := (wrap_id (by omega)).trans (by omega)
  have f3 : IntKind.i64.wrap ((i : Int) - 1) = (i : Int) - 1 := wrap_id (by omega)
  refine ⟨?_⟩
  simp (config := { maxSteps := 4000000 }) only [↓sx0, ↓sx1, ↓sx2, ↓sx3, ↓sx4, ↓sx5, ↓sx6, sx0, sx1, sx2, sx3, sx4, sx5, sx6, tf46, ev3_hold, sxo, sxc, sxp, sxq, sxr, sxs, sxl, sxm, Int.reduceBEq, Int.reduceBNe, Int.reduceLT, Int.reduceLE, Int.reduceEq, Int.reduceGT, Int.reduceGE, Int.reduceToNat, ↓reduceIte, List.reduceReplicate, Nat.reduceAdd, Nat.reduceSub, Nat.reduceMul, Nat.reduceLT, Nat.reduceLeDiff, Nat.reduceBEq, Nat.reduceEqDiff, detR_eq, icb]
  refine at_1 (hgx.rdv i1_len (fun h hh => hh)) i1_len huB rfl fun ad1 => ?_
  simp (config := { maxSteps := 4000000 }) only [↓sx0, ↓sx1, ↓sx2, ↓sx3, ↓sx4, ↓sx5, ↓sx6, sx0, sx1, sx2, sx3, sx4, sx5, sx6, tf46, ev3_hold, sxo, sxc, sxp, sxq, sxr, sxs, sxl, sxm, Int.reduceBEq, Int.reduceBNe, Int.reduceLT, Int.reduceLE, Int.reduceEq, Int.reduceGT, Int.reduceGE, Int.reduceToNat, ↓reduceIte, List.reduceReplicate, Nat.reduceAdd, Nat.reduceSub, Nat.reduceMul, Nat.reduceLT, Nat.reduceLeDiff, Nat.reduceBEq, Nat.reduceEqDiff, f1, dn]
  refine CallOb.pureH (fun w' hp => rforth_fn w' (hw.hp hp) _ c (hc0.hp hp) hok g A T ha.2 ht.2) ?_
  rintro r1 N1 ⟨ad, cp, bs, rfl, hbl, hrow, hrows⟩
  have hM : ∃ m, c.tide.length - T = m := ⟨_, rfl⟩
  obtain ⟨m, hm⟩ := hM
  rw [hm] at hbl hrow hi ⊢
  have hS : ∃ S, setL c g A T (i + 1) = S := ⟨_, rfl⟩
  obtain ⟨S, hS⟩ := hS
  have hSl : S.length = i + 1 := by rw [← hS, setL_len]
  have hch : chained c S := by rw [← hS]; exact setL_chained c hok g A T _
  have hSg : ∀ q, q < i + 1 → S.getD q [] = setN c g A T q := fun q hq => by rw [← hS, setL_get _ _ _ _ _ _ hq]
  have hin' : (S.getD (S.length - 1) []).getD B false = true := by rw [hSl, Nat.add_sub_cancel, hSg _ (by omega)]; exact hin
  have hhd := fun j (hj : j ≤ i) => pth_head hok hch hBl hin' j (by omega)
  have hPl := fun j => pth_len c S B j
  have hMS : ∀ q, q < i + 1 → ∀ y, y < c.depth.length → (0 ≤ lv (mvL c g A T q) y ↔ (S.getD q []).getD y false = true) := fun q hq y hy => by
    rw [hSg q hq]
    exact mvL_set hok ha.2 q y hy
  have hML := fun s => mvL_len c g A T s
  generalize hMM : (fun s => mvL c g A T s) = MM
  have hMe : ∀ s, mvL c g A T s = MM s := fun s => by rw [← hMM]
  simp only [hMe] at hrows hML hMS
  generalize hRR : (fun (ad : Addr) (n cp : Nat) (l : List Int) => HO.row (.slice (some ad) n cp) 3 1 (ints l)) = RR
  have hRe : ∀ ad n cp l, HO.row (.slice (some ad) n cp) 3 1 (ints l) = RR ad n cp l := fun ad n cp l => by rw [← hRR]
  have hrd : ∀ b (o : List Int), o.length = c.depth.length → ∀ G, HO.row (.slice (some ⟨b, 0, none⟩) c.depth.length c.depth.length) 3 1 (ints o) ∈ G → Rdv ⟨w, fun _ => False⟩ G (.slice (some ⟨b, 0, none⟩) c.depth.length c.depth.length) 1 (ints o) := fun b o ho G hG =>
    row_rdv (E := 3) hG ⟨_, _, _, rfl, by rw [cat_len i1_len, ho], fun h => by cases h⟩
  have hrl : ∀ G, (∀ h ∈ N1, h ∈ G) → Rdv ⟨w, fun _ => False⟩ G (.slice (some ad) m cp) 1 (cat (slN c.depth.length) bs) := fun G hG =>
    row_rdv (E := 22) (hG _ hrow) ⟨_, _, _, rfl, by rw [cat_len (slN_len _), hbl], fun h => by cases h⟩
  have hal : ∀ G, (∀ h ∈ N0, h ∈ G) → Rdv ⟨w, fun _ => False⟩ G (.slice adx L.length cx) 1 (ints L) := fun G hG => hgx.rdv i1_len hG
  refine ⟨?_⟩
  simp (config := { maxSteps := 4000000 }) only [↓sx0, ↓sx1, ↓sx2, ↓sx3, ↓sx4, ↓sx5, ↓sx6, sx0, sx1, sx2, sx3, sx4, sx5, sx6, tf46, ev3_hold, sxo, sxc, sxp, sxq, sxr, sxs, sxl, sxm, Int.reduceBEq, Int.reduceBNe, Int.reduceLT, Int.reduceLE, Int.reduceEq, Int.reduceGT, Int.reduceGE, Int.reduceToNat, ↓reduceIte, List.reduceReplicate, Nat.reduceAdd, Nat.reduceSub, Nat.reduceMul, Nat.reduceLT, Nat.reduceLeDiff, Nat.reduceBEq, Nat.reduceEqDiff, dn]
  intro b1
  refine at_1 (hal _ (fun h hh => List.mem_cons_of_mem _ (List.mem_append_right _ hh))) i1_len huB rfl fun ad2 => ?_
  have hb0 : HO.row (.slice (some ⟨b1, 0, none⟩) 1 1) 3 1 [I B] = RR ⟨b1, 0, none⟩ 1 1 (nts (pth c S B 0)) := hRe _ _ _ [(B : Int)]
  rw [hb0]
  simp (config := { maxSteps := 4000000 }) only [↓sx0, ↓sx1, ↓sx2, ↓sx3, ↓sx4, ↓sx5, ↓sx6, sx0, sx1, sx2, sx3, sx4, sx5, sx6, tf46, ev3_hold, sxo, sxc, sxp, sxq, sxr, sxs, sxl, sxm, Int.reduceBEq, Int.reduceBNe, Int.reduceLT, Int.reduceLE, Int.reduceEq, Int.reduceGT, Int.reduceGE, Int.reduceToNat, ↓reduceIte, List.reduceReplicate, Nat.reduceAdd, Nat.reduceSub, Nat.reduceMul, Nat.reduceLT, Nat.reduceLeDiff, Nat.reduceBEq, Nat.reduceEqDiff, f2, f3]
  refine loop_constH (RR ⟨b1, 0, none⟩ 1 1 (nts (pth c S B 0)) :: N1) (HImp.sub (.cons_cons _ (List.sublist_append_left _ _))) [(15, 19), (54, 99)] (fun s : Nat × Addr × Nat => [(15, .slice (some s.2.1) (s.1 + 1) s.2.2), (16, I ((i : Int) - 1 - s.1))])
    (fun s H1 => s.1 ≤ i ∧ H1 = RR s.2.1 (s.1 + 1) s.2.2 (nts (pth c S B s.1)) :: N1) (fun s => i - s.1) (0, ⟨b1, 0, none⟩, 1) ?_ ⟨Nat.zero_le _, rfl⟩ ?_
  · simp (config := { maxSteps := 4000000 }) only [↓sx0, ↓sx1, ↓sx2, ↓sx3, ↓sx4, ↓sx5, ↓sx6, sx0, sx1, sx2, sx3, sx4, sx5, sx6, tf46, ev3_hold, sxo, sxc, sxp, sxq, sxr, sxs, sxl, sxm, Int.reduceBEq, Int.reduceBNe, Int.reduceLT, Int.reduceLE, Int.reduceEq, Int.reduceGT, Int.reduceGE, Int.reduceToNat, ↓reduceIte, List.reduceReplicate, Nat.reduceAdd, Nat.reduceSub, Nat.reduceMul, Nat.reduceLT, Nat.reduceLeDiff, Nat.reduceBEq, Nat.reduceEqDiff]
    simp
  rintro ⟨j, ap, cpp⟩ H1 g1 ⟨hj, rfl⟩
  simp only [] at hj
  have hPlj := hPl j
  by_cases hji : j = i
  · have e7 : ((i : Int) - 1 - (j : Int) ≥ 0) = False := eq_false (by omega)
    refine ⟨?_⟩
    simp (config := { maxSteps := 4000000 }) only [↓sx0, ↓sx1, ↓sx2, ↓sx3, ↓sx4, ↓sx5, ↓sx6, sx0, sx1, sx2, sx3, sx4, sx5, sx6, tf46, ev3_hold, sxo, sxc, sxp, sxq, sxr, sxs, sxl, sxm, Int.reduceBEq, Int.reduceBNe, Int.reduceLT, Int.reduceLE, Int.reduceEq, Int.reduceGT, Int.reduceGE, Int.reduceToNat, ↓reduceIte, List.reduceReplicate, Nat.reduceAdd, Nat.reduceSub, Nat.reduceMul, Nat.reduceLT, Nat.reduceLeDiff, Nat.reduceBEq, Nat.reduceEqDiff, e7]
    refine .inr ⟨by rw [hEu], .inl ⟨i, _, ?_, ?_, ?_, rfl, ?_⟩⟩
    · omega
    · exact hin
    · exact hfst
    · rw [hS, ← hRe, hji]
      exact Got.row (by rw [List.length_map, hPl]) List.mem_cons_self (fun h => by cases h)
  have hQ : ∃ Q : Nat, i - 1 - j = Q := ⟨_, rfl⟩
  obtain ⟨Q, hQ⟩ := hQ
  have eQ : (i : Int) - 1 - (j : Int) = (Q : Int) := by omega
  have e7 : ((Q : Int) ≥ 0) = True := eq_true (by omega)
  have e8 : IntKind.i64.wrap ((Q : Int) - 1) = (i : Int) - 1 - ((j + 1 : Nat) : Int) := (wrap_id (by omega)).trans (by omega)
  have hhj := hhd j hj
  obtain ⟨hh1, hh2⟩ := hhj
  have hnx := pth_next hok hch hBl hin' (j := j) (by omega)
  have hsuc : pth c S B (j + 1) = leastN (S.getD Q []) (nbL c.W c.H ((pth c S B j).getD 0 0)) c.depth.length :: pth c S B j := by
    rw [pth, show S.length - 2 - j = Q by omega]
  have hlst : Lst (bsP (MM Q) (nbL c.W c.H ((pth c S B j).getD 0 0))) (leastN (S.getD Q []) (nbL c.W c.H ((pth c S B j).getD 0 0)) c.depth.length : Nat) := by
    refine bs_least (fun y hy => by have := nbL_lt (show (pth c S B j).getD 0 0 < c.W * c.H by omega) y hy; omega) (hMS Q (by omega)) ?_
    have h3 := hch (S.length - 2 - j) (by omega) _ hh1 (by rw [show S.length - 2 - j + 1 = S.length - 1 - j by omega]; exact hh2)
    rw [show S.length - 2 - j = Q by omega] at h3
    exact h3
  have hu0 : (nts (pth c S B j))[0]? = some (((pth c S B j).getD 0 0 : Nat) : Int) := by rw [List.getElem?_map, getD_at (by omega) 0]; rfl
  have hrp : ∀ G, RR ap (j + 1) cpp (nts (pth c S B j)) ∈ G → Rdv ⟨w, fun _ => False⟩ G (.slice (some ap) (j + 1) cpp) 1 (ints (nts (pth c S B j))) := fun G hG => by
    rw [← hRe] at hG
    exact row_rdv (E := 3) hG ⟨_, _, _, rfl, by rw [cat_len i1_len, List.length_map, hPl], fun h => by cases h⟩
  generalize hK : (pth c S B j).getD 0 0 = K at hh1 hh2 hlst hu0 hsuc
  have hnl := nbL_len c.W c.H K
  have hbj : ∃ bp, bs[Q]? = some bp := ⟨_, List.getElem?_eq_getElem (by omega)⟩
  obtain ⟨bp, hbp⟩ := hbj
  have hrp2 := hrows Q bp hbp
  have hMQ := hML Q
  refine ⟨?_⟩
  simp (config := { maxSteps := 4000000 }) only [↓sx0, ↓sx1, ↓sx2, ↓sx3, ↓sx4, ↓sx5, ↓sx6, sx0, sx1, sx2, sx3, sx4, sx5, sx6, tf46, ev3_hold, sxo, sxc, sxp, sxq, sxr, sxs, sxl, sxm, Int.reduceBEq, Int.reduceBNe, Int.reduceLT, Int.reduceLE, Int.reduceEq, Int.reduceGT, Int.reduceGE, Int.reduceToNat, ↓reduceIte, List.reduceReplicate, Nat.reduceAdd, Nat.reduceSub, Nat.reduceMul, Nat.reduceLT, Nat.reduceLeDiff, Nat.reduceBEq, Nat.reduceEqDiff, eQ, e7, dn]
  refine at_10 (hrp _ List.mem_cons_self) i1_len hu0 rfl fun ad3 => ?_
  simp (config := { maxSteps := 4000000 }) only [↓sx0, ↓sx1, ↓sx2, ↓sx3, ↓sx4, ↓sx5, ↓sx6, sx0, sx1, sx2, sx3, sx4, sx5, sx6, tf46, ev3_hold, sxo, sxc, sxp, sxq, sxr, sxs, sxl, sxm, Int.reduceBEq, Int.reduceBNe, Int.reduceLT, Int.reduceLE, Int.reduceEq, Int.reduceGT, Int.reduceGE, Int.reduceToNat, ↓reduceIte, List.reduceReplicate, Nat.reduceAdd, Nat.reduceSub, Nat.reduceMul, Nat.reduceLT, Nat.reduceLeDiff, Nat.reduceBEq, Nat.reduceEqDiff, dn]
  refine CallOb.pureH (fun w' hp => rnear_fn w' (hw.hp hp) _ c (hc0.hp hp) hok K hh1) ?_
  rintro r2 N2 hnb
  have hshp := hnb.shape
  obtain ⟨adb, cpb, rfl⟩ := hshp
  have hnl2 : (nts (nbL c.W c.H K)).length = (nbL c.W c.H K).length := by simp
  rw [hnl2] at hnb ⊢
  have hrn : ∀ G, (∀ h ∈ N2, h ∈ G) → Rdv ⟨w, fun _ => False⟩ G (.slice adb (nbL c.W c.H K).length cpb) 1 (ints (nts (nbL c.W c.H K))) := fun G hG => hnb.rdv i1_len hG
  generalize hFF : N2 ++ RR ap (j + 1) cpp (nts (pth c S B j)) :: N1 = FF
  have hm1 : ∀ h ∈ N2, h ∈ FF := fun h hh => by rw [← hFF]; simp [hh]
  have hm2 : ∀ h ∈ N1, h ∈ FF := fun h hh => by rw [← hFF]; simp [hh]
  refine ⟨?_⟩
  simp (config := { maxSteps := 4000000 }) only [↓sx0, ↓sx1, ↓sx2, ↓sx3, ↓sx4, ↓sx5, ↓sx6, sx0, sx1, sx2, sx3, sx4, sx5, sx6, tf46, ev3_hold, sxo, sxc, sxp, sxq, sxr, sxs, sxl, sxm, Int.reduceBEq, Int.reduceBNe, Int.reduceLT, Int.reduceLE, Int.reduceEq, Int.reduceGT, Int.reduceGE, Int.reduceToNat, ↓reduceIte, List.reduceReplicate, Nat.reduceAdd, Nat.reduceSub, Nat.reduceMul, Nat.reduceLT, Nat.reduceLeDiff, Nat.reduceBEq, Nat.reduceEqDiff]
  refine loop_constH FF (HImp.refl _ _) [(18, 19), (63, 95)] (fun s : Nat × Int => [(18, I s.2), (19, I s.1)])
    (fun s H1 => s.1 ≤ (nbL c.W c.H K).length ∧ Lst (bsP (MM Q) ((nbL c.W c.H K).take s.1)) s.2 ∧ H1 = FF) (fun s => (nbL c.W c.H K).length - s.1) (0, -1) ?_ ⟨Nat.zero_le _, .inl ⟨rfl, fun m ⟨y, h, _⟩ => by simp at h⟩, rfl⟩ ?_
  · simp (config := { maxSteps := 4000000 }) only [↓sx0, ↓sx1, ↓sx2, ↓sx3, ↓sx4, ↓sx5, ↓sx6, sx0, sx1, sx2, sx3, sx4, sx5, sx6, tf46, ev3_hold, sxo, sxc, sxp, sxq, sxr, sxs, sxl, sxm, Int.reduceBEq, Int.reduceBNe, Int.reduceLT, Int.reduceLE, Int.reduceEq, Int.reduceGT, Int.reduceGE, Int.reduceToNat, ↓reduceIte, List.reduceReplicate, Nat.reduceAdd, Nat.reduceSub, Nat.reduceMul, Nat.reduceLT, Nat.reduceLeDiff, Nat.reduceBEq, Nat.reduceEqDiff]
    simp
  rintro ⟨k, v⟩ H1 g3 ⟨hk, hv, rfl⟩
  simp only [] at hk hv
  have hvge := hv.ge
  by_cases hkn : k = (nbL c.W c.H K).length
  · have q7 : ((k : Int) < ((nbL c.W c.H K).length : Int)) = False := eq_false (by omega)
    have hvM : v = (leastN (S.getD Q []) (nbL c.W c.H K) c.depth.length : Nat) := by
      rw [hkn, List.take_length] at hv
      exact hv.uniq hlst
    refine ⟨?_⟩
    simp (config := { maxSteps := 4000000 }) only [↓sx0, ↓sx1, ↓sx2, ↓sx3, ↓sx4, ↓sx5, ↓sx6, sx0, sx1, sx2, sx3, sx4, sx5, sx6, tf46, ev3_hold, sxo, sxc, sxp, sxq, sxr, sxs, sxl, sxm, Int.reduceBEq, Int.reduceBNe, Int.reduceLT, Int.reduceLE, Int.reduceEq, Int.reduceGT, Int.reduceGE, Int.reduceToNat, ↓reduceIte, List.reduceReplicate, Nat.reduceAdd, Nat.reduceSub, Nat.reduceMul, Nat.reduceLT, Nat.reduceLeDiff, Nat.reduceBEq, Nat.reduceEqDiff, q7]
    intro b2
    rw [← hFF]
    have hap : ∀ adq cq, HO.row (.slice (some adq) (1 + (j + 1)) cq) 3 1 (ints ([v] ++ nts (pth c S B j))) = RR adq (j + 1 + 1) cq (nts (pth c S B (j + 1))) := fun adq cq => by
      rw [hsuc, hRe, hvM, show 1 + (j + 1) = j + 1 + 1 by omega]
      rfl
    refine app_at (l := [v]) (m := nts (pth c S B j)) (HImp.refl _ _) i1_len i1_one (fun w' hp => ?_) (by rw [List.length_map, hPl]; simp only [List.length_singleton]; omega) fun adq cq hnq => ?_
    · have h1 : RR ap (j + 1) cpp (nts (pth c S B j)) ∈ HO.row (.slice (some ⟨b2, 0, none⟩) 1 1) 3 1 [I v] :: (N2 ++ RR ap (j + 1) cpp (nts (pth c S B j)) :: N1) := by simp
      have h2 := hp.ok _ h1
      rw [← hRe] at h2
      exact RowOk.sl (E := 3) h2
    · have hadq : ∃ a, adq = some a := by
        cases adq with
        | none => have := (hnq rfl).1; cases this
        | some a => exact ⟨a, rfl⟩
      obtain ⟨adq, rfl⟩ := hadq
      rw [List.length_map, hPl]
      simp only [List.length_singleton]
      rw [hap]
      simp (config := { maxSteps := 4000000 }) only [↓sx0, ↓sx1, ↓sx2, ↓sx3, ↓sx4, ↓sx5, ↓sx6, sx0, sx1, sx2, sx3, sx4, sx5, sx6, tf46, ev3_hold, sxo, sxc, sxp, sxq, sxr, sxs, sxl, sxm, Int.reduceBEq, Int.reduceBNe, Int.reduceLT, Int.reduceLE, Int.reduceEq, Int.reduceGT, Int.reduceGE, Int.reduceToNat, ↓reduceIte, List.reduceReplicate, Nat.reduceAdd, Nat.reduceSub, Nat.reduceMul, Nat.reduceLT, Nat.reduceLeDiff, Nat.reduceBEq, Nat.reduceEqDiff, e8]
      refine ⟨(j + 1, adq, cq), _, ?_, HImp.sub (.cons_cons _ ((List.sublist_cons_self _ _).trans (List.sublist_append_right _ _))), ⟨by omega, rfl⟩, by omega⟩
      simp only []
      rw [show 1 + (j + 1) = j + 1 + 1 by omega]
      exact ⟨rfl, trivial⟩
  have q7 : ((k : Int) < ((nbL c.W c.H K).length : Int)) = True := eq_true (by omega)
  have q8 : IntKind.i64.wrap ((k : Int) + 1) = ((k + 1 : Nat) : Int) := (wrap_id (by omega)).trans (by omega)
  have hy0 : ∃ y, (nbL c.W c.H K)[k]? = some y := ⟨_, List.getElem?_eq_getElem (by omega)⟩
  obtain ⟨y, hy⟩ := hy0
  have hyN := nbL_lt (show K < c.W * c.H by omega) y (List.mem_of_getElem? hy)
  have hyI : (nts (nbL c.W c.H K))[k]? = some (y : Int) := by rw [List.getElem?_map, hy]; rfl
  have htk : (nbL c.W c.H K).take (k + 1) = (nbL c.W c.H K).take k ++ [y] := by rw [List.take_add_one, hy]; rfl
  have hyl : (MM Q)[y]? = some (lv (MM Q) y) := getD_at (by omega) 0
  refine ⟨?_⟩
  simp (config := { maxSteps := 4000000 }) only [↓sx0, ↓sx1, ↓sx2, ↓sx3, ↓sx4, ↓sx5, ↓sx6, sx0, sx1, sx2, sx3, sx4, sx5, sx6, tf46, ev3_hold, sxo, sxc, sxp, sxq, sxr, sxs, sxl, sxm, Int.reduceBEq, Int.reduceBNe, Int.reduceLT, Int.reduceLE, Int.reduceEq, Int.reduceGT, Int.reduceGE, Int.reduceToNat, ↓reduceIte, List.reduceReplicate, Nat.reduceAdd, Nat.reduceSub, Nat.reduceMul, Nat.reduceLT, Nat.reduceLeDiff, Nat.reduceBEq, Nat.reduceEqDiff, q7]
  refine at_1 (hrl _ hm2) (slN_len _) hbp rfl fun ad4 => ?_
  simp (config := { maxSteps := 4000000 }) only [↓sx0, ↓sx1, ↓sx2, ↓sx3, ↓sx4, ↓sx5, ↓sx6, sx0, sx1, sx2, sx3, sx4, sx5, sx6, tf46, ev3_hold, sxo, sxc, sxp, sxq, sxr, sxs, sxl, sxm, Int.reduceBEq, Int.reduceBNe, Int.reduceLT, Int.reduceLE, Int.reduceEq, Int.reduceGT, Int.reduceGE, Int.reduceToNat, ↓reduceIte, List.reduceReplicate, Nat.reduceAdd, Nat.reduceSub, Nat.reduceMul, Nat.reduceLT, Nat.reduceLeDiff, Nat.reduceBEq, Nat.reduceEqDiff, q7]
  refine amid (at_1 (hrn _ hm1) i1_len hyI rfl fun ad5 => ?_)
  simp (config := { maxSteps := 4000000 }) only [↓sx0, ↓sx1, ↓sx2, ↓sx3, ↓sx4, ↓sx5, ↓sx6, sx0, sx1, sx2, sx3, sx4, sx5, sx6, tf46, ev3_hold, sxo, sxc, sxp, sxq, sxr, sxs, sxl, sxm, Int.reduceBEq, Int.reduceBNe, Int.reduceLT, Int.reduceLE, Int.reduceEq, Int.reduceGT, Int.reduceGE, Int.reduceToNat, ↓reduceIte, List.reduceReplicate, Nat.reduceAdd, Nat.reduceSub, Nat.reduceMul, Nat.reduceLT, Nat.reduceLeDiff, Nat.reduceBEq, Nat.reduceEqDiff]
  refine at_1 (hrd bp _ hMQ _ (hm2 _ hrp2)) i1_len hyl rfl fun ad6 => ?_
  by_cases hn0 : lv (MM Q) y ≥ 0
  case neg =>
    have k2 : (lv (MM Q) y ≥ 0) = False := eq_false hn0
    simp (config := { maxSteps := 4000000 }) only [↓sx0, ↓sx1, ↓sx2, ↓sx3, ↓sx4, ↓sx5, ↓sx6, sx0, sx1, sx2, sx3, sx4, sx5, sx6, tf46, ev3_hold, sxo, sxc, sxp, sxq, sxr, sxs, sxl, sxm, Int.reduceBEq, Int.reduceBNe, Int.reduceLT, Int.reduceLE, Int.reduceEq, Int.reduceGT, Int.reduceGE, Int.reduceToNat, ↓reduceIte, List.reduceReplicate, Nat.reduceAdd, Nat.reduceSub, Nat.reduceMul, Nat.reduceLT, Nat.reduceLeDiff, Nat.reduceBEq, Nat.reduceEqDiff, k2, q8]
    exact ⟨(k + 1, v), _, ⟨rfl, rfl⟩, HImp.refl _ _, ⟨by omega, by simp only []; rw [htk]; exact bs_skip hv hn0, rfl⟩, by omega⟩
  have k2 : (lv (MM Q) y ≥ 0) = True := eq_true hn0
  have hgo := bs_more hv hn0
  rw [← htk] at hgo
  by_cases hv0 : v < 0
  · have k3 : (v < 0) = True := eq_true hv0
    rw [if_pos (.inl (by omega))] at hgo
    simp (config := { maxSteps := 4000000 }) only [↓sx0, ↓sx1, ↓sx2, ↓sx3, ↓sx4, ↓sx5, ↓sx6, sx0, sx1, sx2, sx3, sx4, sx5, sx6, tf46, ev3_hold, sxo, sxc, sxp, sxq, sxr, sxs, sxl, sxm, Int.reduceBEq, Int.reduceBNe, Int.reduceLT, Int.reduceLE, Int.reduceEq, Int.reduceGT, Int.reduceGE, Int.reduceToNat, ↓reduceIte, List.reduceReplicate, Nat.reduceAdd, Nat.reduceSub, Nat.reduceMul, Nat.reduceLT, Nat.reduceLeDiff, Nat.reduceBEq, Nat.reduceEqDiff, k2, k3, q7]
    refine amid (at_1 (hrn _ hm1) i1_len hyI rfl fun ad7 => ?_)
    simp (config := { maxSteps := 4000000 }) only [↓sx0, ↓sx1, ↓sx2, ↓sx3, ↓sx4, ↓sx5, ↓sx6, sx0, sx1, sx2, sx3, sx4, sx5, sx6, tf46, ev3_hold, sxo, sxc, sxp, sxq, sxr, sxs, sxl, sxm, Int.reduceBEq, Int.reduceBNe, Int.reduceLT, Int.reduceLE, Int.reduceEq, Int.reduceGT, Int.reduceGE, Int.reduceToNat, ↓reduceIte, List.reduceReplicate, Nat.reduceAdd, Nat.reduceSub, Nat.reduceMul, Nat.reduceLT, Nat.reduceLeDiff, Nat.reduceBEq, Nat.reduceEqDiff, q8]
    exact ⟨(k + 1, (y : Int)), _, ⟨rfl, rfl⟩, HImp.refl _ _, ⟨by omega, hgo, rfl⟩, by omega⟩
  have k3 : (v < 0) = False := eq_false hv0
  by_cases hv1 : (y : Int) < v
  · have k4 : ((y : Int) < v) = True := eq_true hv1
    rw [if_pos (.inr hv1)] at hgo
    simp (config := { maxSteps := 4000000 }) only [↓sx0, ↓sx1, ↓sx2, ↓sx3, ↓sx4, ↓sx5, ↓sx6, sx0, sx1, sx2, sx3, sx4, sx5, sx6, tf46, ev3_hold, sxo, sxc, sxp, sxq, sxr, sxs, sxl, sxm, Int.reduceBEq, Int.reduceBNe, Int.reduceLT, Int.reduceLE, Int.reduceEq, Int.reduceGT, Int.reduceGE, Int.reduceToNat, ↓reduceIte, List.reduceReplicate, Nat.reduceAdd, Nat.reduceSub, Nat.reduceMul, Nat.reduceLT, Nat.reduceLeDiff, Nat.reduceBEq, Nat.reduceEqDiff, k2, k3, q7]
    refine amid (at_1 (hrn _ hm1) i1_len hyI rfl fun ad7 => ?_)
    simp (config := { maxSteps := 4000000 }) only [↓sx0, ↓sx1, ↓sx2, ↓sx3, ↓sx4, ↓sx5, ↓sx6, sx0, sx1, sx2, sx3, sx4, sx5, sx6, tf46, ev3_hold, sxo, sxc, sxp, sxq, sxr, sxs, sxl, sxm, Int.reduceBEq, Int.reduceBNe, Int.reduceLT, Int.reduceLE, Int.reduceEq, Int.reduceGT, Int.reduceGE, Int.reduceToNat, ↓reduceIte, List.reduceReplicate, Nat.reduceAdd, Nat.reduceSub, Nat.reduceMul, Nat.reduceLT, Nat.reduceLeDiff, Nat.reduceBEq, Nat.reduceEqDiff, k4, q7]
    refine amid (at_1 (hrn _ hm1) i1_len hyI rfl fun ad8 => ?_)
    simp (config := { maxSteps := 4000000 }) only [↓sx0, ↓sx1, ↓sx2, ↓sx3, ↓sx4, ↓sx5, ↓sx6, sx0, sx1, sx2, sx3, sx4, sx5, sx6, tf46, ev3_hold, sxo, sxc, sxp, sxq, sxr, sxs, sxl, sxm, Int.reduceBEq, Int.reduceBNe, Int.reduceLT, Int.reduceLE, Int.reduceEq, Int.reduceGT, Int.reduceGE, Int.reduceToNat, ↓reduceIte, List.reduceReplicate, Nat.reduceAdd, Nat.reduceSub, Nat.reduceMul, Nat.reduceLT, Nat.reduceLeDiff, Nat.reduceBEq, Nat.reduceEqDiff, q8]
    exact ⟨(k + 1, (y : Int)), _, ⟨rfl, rfl⟩, HImp.refl _ _, ⟨by omega, hgo, rfl⟩, by omega⟩
  · have k4 : ((y : Int) < v) = False := eq_false hv1
    rw [if_neg (by omega)] at hgo
    simp (config := { maxSteps := 4000000 }) only [↓sx0, ↓sx1, ↓sx2, ↓sx3, ↓sx4, ↓sx5, ↓sx6, sx0, sx1, sx2, sx3, sx4, sx5, sx6, tf46, ev3_hold, sxo, sxc, sxp, sxq, sxr, sxs, sxl, sxm, Int.reduceBEq, Int.reduceBNe, Int.reduceLT, Int.reduceLE, Int.reduceEq, Int.reduceGT, Int.reduceGE, Int.reduceToNat, ↓reduceIte, List.reduceReplicate, Nat.reduceAdd, Nat.reduceSub, Nat.reduceMul, Nat.reduceLT, Nat.reduceLeDiff, Nat.reduceBEq, Nat.reduceEqDiff, k2, k3, q7]
    refine amid (at_1 (hrn _ hm1) i1_len hyI rfl fun ad7 => ?_)
    simp (config := { maxSteps := 4000000 }) only [↓sx0, ↓sx1, ↓sx2, ↓sx3, ↓sx4, ↓sx5, ↓sx6, sx0, sx1, sx2, sx3, sx4, sx5, sx6, tf46, ev3_hold, sxo, sxc, sxp, sxq, sxr, sxs, sxl, sxm, Int.reduceBEq, Int.reduceBNe, Int.reduceLT, Int.reduceLE, Int.reduceEq, Int.reduceGT, Int.reduceGE, Int.reduceToNat, ↓reduceIte, List.reduceReplicate, Nat.reduceAdd, Nat.reduceSub, Nat.reduceMul, Nat.reduceLT, Nat.reduceLeDiff, Nat.reduceBEq, Nat.reduceEqDiff, k4, q8]
    exact ⟨(k + 1, v), _, ⟨rfl, rfl⟩, HImp.refl _ _, ⟨by omega, hgo, rfl⟩, by omega⟩

end Go.Proofs.YtcnjhgnlcnmagaaDoor

namespace Go.Proofs.YtcnjhgnlcnmagaaDoor
open Go.RowKit Go.SX
set_option maxRecDepth 20000
set_option maxHeartbeats 8000000
set_option linter.unusedSimpArgs false
set_option linter.unusedVariables false

/-! ### The reference's Depart -/

def canN (c : Cht) (g : Int) (B T : Nat) : Nat → List Bool
  | 0 => List.replicate c.depth.length false
  | s + 1 => dpN c g B T s

theorem canN_len (c : Cht) (g : Int) (B T : Nat) : ∀ s, (canN c g B T s).length = c.depth.length
  | 0 => by simp [canN]
  | s + 1 => dpN_len ..

def cnd (c : Cht) (g : Int) (B T s i y : Nat) : Bool := if s = 0 then decide (i = B) else (canN c g B T s).getD y false

theorem dpN_cnd {c : Cht} (hok : c.ok) {g : Int} {B T i : Nat} (hB : B < c.depth.length) (hi : i < c.depth.length) : ∀ s, (dpN c g B T s).getD i false = ((nbL c.W c.H i).any (cnd c g B T s i) && c.flt g (T - s) i)
  | 0 => by
    have e : (nbL c.W c.H i).any (cnd c g B T 0 i) = decide (i = B) := by
      rw [Bool.eq_iff_iff, List.any_eq_true]
      constructor
      · rintro ⟨y, _, h⟩
        exact h
      · intro h
        exact ⟨i, nb_self _ _ _, h⟩
    rw [e, dpN]
    by_cases h : i = B
    · subst h
      rw [List.getD_eq_getElem?_getD, List.getElem?_set_self (by simpa using hi)]
      unfold Cht.flt
      simp
    · rw [List.getD_eq_getElem?_getD, List.getElem?_set_ne (by omega)]
      simp [List.getElem?_replicate, hi, h]
  | s + 1 => by
    rw [Bool.eq_iff_iff, Bool.and_eq_true, List.any_eq_true, dpN_succ c hok g B T s i hi]
    constructor
    · rintro ⟨h1, y, h2, h3⟩
      exact ⟨⟨y, h2, h3⟩, h1⟩
    · rintro ⟨⟨y, h2, h3⟩, h1⟩
      exact ⟨h1, y, h2, h3⟩

theorem depL_neg {c : Cht} {g : Int} {B T i : Nat} (hi : i < c.depth.length) (s : Nat) : lv (depL c g B T s) i < 0 ↔ lv (depL c g B T s) i = -1 := by
  rcases depL_get c g B T i hi s with ⟨j, _, _, _, h⟩ | ⟨_, h⟩
  · change lv (depL c g B T s) i = _ at h
    omega
  · change lv (depL c g B T s) i = _ at h
    omega

theorem depL_step {c : Cht} {g : Int} {B T i : Nat} (hi : i < c.depth.length) (s : Nat) : lv (depL c g B T (s + 1)) i = if (dpN c g B T s).getD i false = true ∧ lv (depL c g B T s) i < 0 then ((T - s : Nat) : Int) else lv (depL c g B T s) i := by
  have hl := depL_len c g B T s
  have := markK_get (depL c g B T s) (dpN c g B T s) ((T - s : Nat) : Int) i (by omega) (depL c g B T s).length
  have hn := depL_neg (g := g) (B := B) (T := T) hi s
  rw [depL]
  unfold lv at hn ⊢
  rw [this]
  by_cases h : (dpN c g B T s).getD i false = true ∧ (depL c g B T s).getD i 0 < 0
  · rw [if_pos h, if_pos ⟨by omega, h.1, hn.1 h.2⟩]
  · rw [if_neg h, if_neg fun q => h ⟨q.2.1, hn.2 q.2.2⟩]

/-- The first elements of one list, then those of another one. -/
def mixL {α : Type} (M L : List α) (i : Nat) : List α := M.take i ++ L.drop i

theorem mixL_len {α : Type} {M L : List α} (h : M.length = L.length) {i : Nat} (hi : i ≤ M.length) : (mixL M L i).length = M.length := by
  unfold mixL
  simp
  omega

theorem mixL_zero {α : Type} (M L : List α) : mixL M L 0 = L := by simp [mixL]
theorem mixL_end {α : Type} {M L : List α} (h : M.length = L.length) : mixL M L M.length = M := by
  unfold mixL
  rw [List.take_length, List.drop_of_length_le (by omega), List.append_nil]

theorem mixL_set {α : Type} {M L : List α} (h : M.length = L.length) {i : Nat} (hi : i < M.length) (d : α) : (mixL M L i).set i (M.getD i d) = mixL M L (i + 1) := by
  unfold mixL
  rw [List.set_append_right _ _ (by simp; omega), List.length_take, Nat.min_eq_left (by omega), Nat.sub_self, List.drop_eq_getElem_cons (by omega : i < L.length), List.set_cons_zero, List.take_add_one, getD_at hi d]
  simp

theorem mixL_at {α : Type} {M L : List α} (h : M.length = L.length) {i : Nat} (hi : i < M.length) (d : α) : (mixL M L i)[i]? = some (L.getD i d) := by
  unfold mixL
  rw [List.getElem?_append_right (by simp; omega)]
  simp only [List.length_take, Nat.min_eq_left (by omega : i ≤ M.length), Nat.sub_self, List.getElem?_drop, Nat.add_zero]
  exact getD_at (by omega) d

theorem set_own {α : Type} {l : List α} {i : Nat} {a : α} (h : l[i]? = some a) : l.set i a = l := by
  refine List.ext_getElem? fun j => ?_
  rw [List.getElem?_set]
  by_cases hj : i = j
  · subst hj
    have := (List.getElem?_eq_some_iff.1 h).1
    rw [if_pos rfl, if_pos this, h]
  · rw [if_neg hj]

theorem mixL_same {α : Type} {M L : List α} (h : M.length = L.length) {i : Nat} (hi : i < M.length) (d : α) (he : M.getD i d = L.getD i d) : mixL M L i = mixL M L (i + 1) := by
  rw [← mixL_set h hi d, he]
  exact (set_own (mixL_at h hi d)).symm

/-- All that the walk of Depart needs, its lists opaque. -/
theorem dep_pack {c : Cht} (hok : c.ok) {g : Int} {B T : Nat} (hB : B < c.depth.length) : ∃ (Lf : Nat → List Int) (Df Cf : Nat → List Bool) (cnf : Nat → Nat → Nat → Bool) (Z : List Int) (F : List Bool),
    (∀ s, (Lf s).length = c.depth.length) ∧ (∀ s, (Df s).length = c.depth.length) ∧ (∀ s, (Cf s).length = c.depth.length) ∧ (∀ s, Cf (s + 1) = Df s) ∧
    (∀ s i, i < c.depth.length → (Df s).getD i false = ((nbL c.W c.H i).any (cnf s i) && c.flt g (T - s) i)) ∧
    (∀ s i, i < c.depth.length → (Lf (s + 1)).getD i 0 = if (Df s).getD i false = true ∧ (Lf s).getD i 0 < 0 then ((T - s : Nat) : Int) else (Lf s).getD i 0) ∧
    (∀ s i y, s = 0 → cnf s i y = decide (i = B)) ∧ (∀ s i y, s ≠ 0 → cnf s i y = (Cf s).getD y false) ∧
    (∀ i, i < c.depth.length → (Lf 0).getD i 0 = -1) ∧ Lf (T + 1) = depL c g B T (T + 1) ∧
    Z.length = c.depth.length ∧ zerosL c.depth.length [Value.int .i64 0] = ints Z ∧ F.length = c.depth.length ∧ zerosL c.depth.length [Value.bool false] = bools F ∧ (∀ i, F.getD i false = false) ∧ Cf 0 = F := by
  refine ⟨depL c g B T, dpN c g B T, canN c g B T, cnd c g B T, List.replicate c.depth.length 0, List.replicate c.depth.length false, fun s => depL_len .., fun s => dpN_len .., fun s => canN_len .., fun s => rfl, fun s i hi => dpN_cnd hok hB hi s, fun s i hi => depL_step hi s, fun s i y h => if_pos h, fun s i y h => if_neg h, fun i hi => ?_, rfl, by simp, zeros_cat i1 0 _, by simp, zeros_cat b1 false _, fun i => ?_, rfl⟩
  · rw [depL, List.getD_eq_getElem?_getD, List.getElem?_replicate, if_pos hi]
    rfl
  · rw [List.getD_eq_getElem?_getD, List.getElem?_replicate]
    split <;> rfl

end Go.Proofs.YtcnjhgnlcnmagaaDoor

namespace Go.Proofs.YtcnjhgnlcnmagaaDoor
open Go.RowKit Go.SX
set_option maxRecDepth 20000
set_option maxHeartbeats 8000000
set_option linter.unusedSimpArgs false
set_option linter.unusedVariables false

theorem rdepart_fn (w : World) (hw : Ways w) (v : Value) (c : Cht) (hc : ChOk w v c) (hsm : c.small) (g b t : Int) :
    SX.Fn Tryd.prog 48 [v, I g, I b, I t] w (fun _ => False) fun r N => (openE c [b] [t] [g] ≠ 0 ∧ r = .tuple #[.slice none 0 0, I (openE c [b] [t] [g])]) ∨
      (openE c [b] [t] [g] = 0 ∧ ∃ x, r = .tuple #[x, I 0] ∧ Got x 3 1 i1 (depL c g b.toNat t.toNat (t.toNat + 1)) N) := by
  have hc0 := hc
  have hD := detR_ok (X := fun _ => False) hw hc (fun _ _ => id)
  obtain ⟨sD, sT, sS, rfl, hsD, hsT, hsS⟩ := hc
  generalize hV : (Value.agg #[I c.wide, I c.high, sD, sT, sS]) = V at hD hc0
  have dn : (∀ xs, detR V c 81 xs = none) ∧ (∀ xs, detR V c 83 xs = none) ∧ (∀ xs, detR V c 79 xs = none) := ⟨fun _ => rfl, fun _ => rfl, fun _ => rfl⟩
  subst hV
  by_cases he : openE c [b] [t] [g] = 0
  case neg =>
    have e1 : (openE c [b] [t] [g] = 0) = False := eq_false he
    refine walk [] [] hD Tryd.func48 rfl Tryd.ntmps48 res48 (by kernel_rfl) no_facts ?_
    simp (config := { maxSteps := 4000000 }) only [↓sx0, ↓sx1, ↓sx2, ↓sx3, ↓sx4, ↓sx5, ↓sx6, sx0, sx1, sx2, sx3, sx4, sx5, sx6, tf48, ev3_hold, sxo, sxc, sxp, sxq, sxr, sxs, sxl, sxm, Int.reduceBEq, Int.reduceBNe, Int.reduceLT, Int.reduceLE, Int.reduceEq, Int.reduceGT, Int.reduceGE, Int.reduceToNat, ↓reduceIte, List.reduceReplicate, Nat.reduceAdd, Nat.reduceSub, Nat.reduceMul, Nat.reduceLT, Nat.reduceLeDiff, Nat.reduceBEq, Nat.reduceEqDiff, dn]
    refine CallOb.pureH (fun w' hp => rchk_fn w' (hw.hp hp) _ c (hc0.hp hp) hsm g b t) ?_
    rintro r N rfl
    refine ⟨?_⟩
    simp (config := { maxSteps := 4000000 }) only [↓sx0, ↓sx1, ↓sx2, ↓sx3, ↓sx4, ↓sx5, ↓sx6, sx0, sx1, sx2, sx3, sx4, sx5, sx6, tf48, ev3_hold, sxo, sxc, sxp, sxq, sxr, sxs, sxl, sxm, Int.reduceBEq, Int.reduceBNe, Int.reduceLT, Int.reduceLE, Int.reduceEq, Int.reduceGT, Int.reduceGE, Int.reduceToNat, ↓reduceIte, List.reduceReplicate, Nat.reduceAdd, Nat.reduceSub, Nat.reduceMul, Nat.reduceLT, Nat.reduceLeDiff, Nat.reduceBEq, Nat.reduceEqDiff, e1]
    exact .inl trivial
  have hz := openE_zero he
  obtain ⟨hok, hcl, htl, hgl⟩ := hz
  have hb := hcl b (by simp)
  have ht := htl t (by simp)
  have hdm := hok.dims
  obtain ⟨eW, eH, hW, hH, hlen⟩ := hdm
  have h60 := hok.2.2.2.1.2
  have h144 := Nat.mul_le_mul hW.2 hH.2
  have e6 : IntKind.i64.wrap (c.wide * c.high) = (c.depth.length : Int) := by
    have h1 := hok.2.2.1
    rw [← h1]
    exact wrap_id (by omega)
  have hB' : ∃ B : Nat, b = B := ⟨b.toNat, by omega⟩
  have hT' : ∃ T : Nat, t = T := ⟨t.toNat, by omega⟩
  obtain ⟨B, hB⟩ := hB'
  obtain ⟨T, hT⟩ := hT'
  subst hB hT
  simp only [Int.toNat_natCast] at hb ht ⊢
  have hpk := dep_pack hok (g := g) (T := T) hb.2
  obtain ⟨Lf, Df, Cf, cnf, Z, F, hLl, hDl, hCl, hCs, hcnd, hstp, hcn0, hcn1, hL0, hLe, hZl, hZe, hFl, hFe, hF0, hC0⟩ := hpk
  rw [← hLe]
  clear hLe
  refine walk [] [] hD Tryd.func48 rfl Tryd.ntmps48 res48 (by kernel_rfl) no_facts ?_
  simp (config := { maxSteps := 4000000 }) only [↓sx0, ↓sx1, ↓sx2, ↓sx3, ↓sx4, ↓sx5, ↓sx6, sx0, sx1, sx2, sx3, sx4, sx5, sx6, tf48, ev3_hold, sxo, sxc, sxp, sxq, sxr, sxs, sxl, sxm, Int.reduceBEq, Int.reduceBNe, Int.reduceLT, Int.reduceLE, Int.reduceEq, Int.reduceGT, Int.reduceGE, Int.reduceToNat, ↓reduceIte, List.reduceReplicate, Nat.reduceAdd, Nat.reduceSub, Nat.reduceMul, Nat.reduceLT, Nat.reduceLeDiff, Nat.reduceBEq, Nat.reduceEqDiff, dn]
  refine CallOb.pureH (fun w' hp => rchk_fn w' (hw.hp hp) _ c (hc0.hp hp) hsm g B T) ?_
  intro r N hr
  rw [he] at hr
  subst hr
  refine ⟨?_⟩
  simp (config := { maxSteps := 4000000 }) only [↓sx0, ↓sx1, ↓sx2, ↓sx3, ↓sx4, ↓sx5, ↓sx6, sx0, sx1, sx2, sx3, sx4, sx5, sx6, tf48, ev3_hold, sxo, sxc, sxp, sxq, sxr, sxs, sxl, sxm, Int.reduceBEq, Int.reduceBNe, Int.reduceLT, Int.reduceLE, Int.reduceEq, Int.reduceGT, Int.reduceGE, Int.reduceToNat, ↓reduceIte, List.reduceReplicate, Nat.reduceAdd, Nat.reduceSub, Nat.reduceMul, Nat.reduceLT, Nat.reduceLeDiff, Nat.reduceBEq, Nat.reduceEqDiff, detR_eq, e6]
  refine ⟨by omega, by omega, by omega, fun bo => ?_⟩
  refine ⟨by omega, by omega, by omega, fun bc => ?_⟩
  rw [hZe, hFe]
  generalize hRO : (fun (l : List Int) => HO.row (.slice (some ⟨bo, 0, none⟩) c.depth.length c.depth.length) 3 1 (ints l)) = RO
  have hOe : ∀ l, HO.row (.slice (some ⟨bo, 0, none⟩) c.depth.length c.depth.length) 3 1 (ints l) = RO l := fun l => by rw [← hRO]
  generalize hRB : (fun (b : Nat) (l : List Bool) => HO.row (.slice (some ⟨b, 0, none⟩) c.depth.length c.depth.length) 4 1 (bools l)) = RB
  have hBe : ∀ b l, HO.row (.slice (some ⟨b, 0, none⟩) c.depth.length c.depth.length) 4 1 (bools l) = RB b l := fun b l => by rw [← hRB]
  have hrO : ∀ (o : List Int), o.length = c.depth.length → ∀ G, RO o ∈ G → Rdv ⟨w, fun _ => False⟩ G (.slice (some ⟨bo, 0, none⟩) c.depth.length c.depth.length) 1 (ints o) := fun o ho G hG => by
    rw [← hOe] at hG
    exact row_rdv (E := 3) hG ⟨_, _, _, rfl, by rw [cat_len i1_len, ho], fun h => by cases h⟩
  have hrB : ∀ b (o : List Bool), o.length = c.depth.length → ∀ G, RB b o ∈ G → Rdv ⟨w, fun _ => False⟩ G (.slice (some ⟨b, 0, none⟩) c.depth.length c.depth.length) 1 (bools o) := fun b o ho G hG => by
    rw [← hBe] at hG
    exact row_rdv (E := 4) hG ⟨_, _, _, rfl, by rw [cat_len b1_len, ho], fun h => by cases h⟩
  have hLZ : (Lf 0).length = Z.length := (hLl 0).trans hZl.symm
  have hme : mixL (Lf 0) Z c.depth.length = Lf 0 := by
    have := mixL_end hLZ
    rwa [hLl] at this
  rw [hOe, hBe]
  refine loop_constH [RO (mixL (Lf 0) Z 0), RB bc (Cf 0)] (by rw [mixL_zero, hC0]; exact (HImp.swap _ _ _ _).trans (HImp.sub (.cons_cons _ (.cons_cons _ (List.nil_sublist _))))) [(13, 13), (33, 41)] (fun i : Nat => [(13, I i)])
    (fun i H1 => i ≤ c.depth.length ∧ H1 = [RO (mixL (Lf 0) Z i), RB bc (Cf 0)]) (fun i => c.depth.length - i) 0 ?_ ⟨Nat.zero_le _, rfl⟩ ?_
  · simp (config := { maxSteps := 4000000 }) only [↓sx0, ↓sx1, ↓sx2, ↓sx3, ↓sx4, ↓sx5, ↓sx6, sx0, sx1, sx2, sx3, sx4, sx5, sx6, tf48, ev3_hold, sxo, sxc, sxp, sxq, sxr, sxs, sxl, sxm, Int.reduceBEq, Int.reduceBNe, Int.reduceLT, Int.reduceLE, Int.reduceEq, Int.reduceGT, Int.reduceGE, Int.reduceToNat, ↓reduceIte, List.reduceReplicate, Nat.reduceAdd, Nat.reduceSub, Nat.reduceMul, Nat.reduceLT, Nat.reduceLeDiff, Nat.reduceBEq, Nat.reduceEqDiff]
    simp
  rintro i H1 g1 ⟨hi, rfl⟩
  by_cases hin : i = c.depth.length
  case neg =>
    have e7 : ((i : Int) < (c.depth.length : Int)) = True := eq_true (by omega)
    have e8 : IntKind.i64.wrap ((i : Int) + 1) = ((i + 1 : Nat) : Int) := (wrap_id (by omega)).trans (by omega)
    have hL0l := hLl 0
    have hml := mixL_len hLZ (i := i) (by omega)
    have hst := mixL_set hLZ (i := i) (by omega) 0
    rw [hL0 i (by omega)] at hst
    refine ⟨?_⟩
    simp (config := { maxSteps := 4000000 }) only [↓sx0, ↓sx1, ↓sx2, ↓sx3, ↓sx4, ↓sx5, ↓sx6, sx0, sx1, sx2, sx3, sx4, sx5, sx6, tf48, ev3_hold, sxo, sxc, sxp, sxq, sxr, sxs, sxl, sxm, Int.reduceBEq, Int.reduceBNe, Int.reduceLT, Int.reduceLE, Int.reduceEq, Int.reduceGT, Int.reduceGE, Int.reduceToNat, ↓reduceIte, List.reduceReplicate, Nat.reduceAdd, Nat.reduceSub, Nat.reduceMul, Nat.reduceLT, Nat.reduceLeDiff, Nat.reduceBEq, Nat.reduceEqDiff, e7]
    refine ⟨by omega, _, rfl, ?_⟩
    rw [← hOe]
    refine wr_at (A := []) (k := i) (u := (-1 : Int)) rfl i1_len (by omega) (by omega) ?_
    rw [hOe, hst]
    simp (config := { maxSteps := 4000000 }) only [↓sx0, ↓sx1, ↓sx2, ↓sx3, ↓sx4, ↓sx5, ↓sx6, sx0, sx1, sx2, sx3, sx4, sx5, sx6, tf48, ev3_hold, sxo, sxc, sxp, sxq, sxr, sxs, sxl, sxm, Int.reduceBEq, Int.reduceBNe, Int.reduceLT, Int.reduceLE, Int.reduceEq, Int.reduceGT, Int.reduceGE, Int.reduceToNat, ↓reduceIte, List.reduceReplicate, Nat.reduceAdd, Nat.reduceSub, Nat.reduceMul, Nat.reduceLT, Nat.reduceLeDiff, Nat.reduceBEq, Nat.reduceEqDiff, e8]
    exact ⟨i + 1, _, rfl, HImp.refl _ _, ⟨by omega, rfl⟩, by omega⟩
  subst hin
  have e7 : ((c.depth.length : Int) < (c.depth.length : Int)) = False := eq_false (by omega)
  refine ⟨?_⟩
  simp (config := { maxSteps := 4000000 }) only [↓sx0, ↓sx1, ↓sx2, ↓sx3, ↓sx4, ↓sx5, ↓sx6, sx0, sx1, sx2, sx3, sx4, sx5, sx6, tf48, ev3_hold, sxo, sxc, sxp, sxq, sxr, sxs, sxl, sxm, Int.reduceBEq, Int.reduceBNe, Int.reduceLT, Int.reduceLE, Int.reduceEq, Int.reduceGT, Int.reduceGE, Int.reduceToNat, ↓reduceIte, List.reduceReplicate, Nat.reduceAdd, Nat.reduceSub, Nat.reduceMul, Nat.reduceLT, Nat.reduceLeDiff, Nat.reduceBEq, Nat.reduceEqDiff, e7, hme]
  refine loop_constH [RO (Lf 0), RB bc (Cf 0)] (HImp.refl _ _) [(12, 12), (14, 18), (43, 125)] (fun s : Nat × Nat => [(12, .slice (some ⟨s.2, 0, none⟩) c.depth.length c.depth.length), (14, I ((T : Int) - s.1))])
    (fun s H1 => s.1 ≤ T + 1 ∧ H1 = [RO (Lf s.1), RB s.2 (Cf s.1)]) (fun s => T + 1 - s.1) (0, bc) ?_ ⟨Nat.zero_le _, rfl⟩ ?_
  · simp (config := { maxSteps := 4000000 }) only [↓sx0, ↓sx1, ↓sx2, ↓sx3, ↓sx4, ↓sx5, ↓sx6, sx0, sx1, sx2, sx3, sx4, sx5, sx6, tf48, ev3_hold, sxo, sxc, sxp, sxq, sxr, sxs, sxl, sxm, Int.reduceBEq, Int.reduceBNe, Int.reduceLT, Int.reduceLE, Int.reduceEq, Int.reduceGT, Int.reduceGE, Int.reduceToNat, ↓reduceIte, List.reduceReplicate, Nat.reduceAdd, Nat.reduceSub, Nat.reduceMul, Nat.reduceLT, Nat.reduceLeDiff, Nat.reduceBEq, Nat.reduceEqDiff]
    simp
  rintro ⟨s, bp⟩ H1 g2 ⟨hs, rfl⟩
  simp only [] at hs
  by_cases hsT : s = T + 1
  · have f7 : ((T : Int) - (s : Int) ≥ 0) = False := eq_false (by omega)
    refine ⟨?_⟩
    simp (config := { maxSteps := 4000000 }) only [↓sx0, ↓sx1, ↓sx2, ↓sx3, ↓sx4, ↓sx5, ↓sx6, sx0, sx1, sx2, sx3, sx4, sx5, sx6, tf48, ev3_hold, sxo, sxc, sxp, sxq, sxr, sxs, sxl, sxm, Int.reduceBEq, Int.reduceBNe, Int.reduceLT, Int.reduceLE, Int.reduceEq, Int.reduceGT, Int.reduceGE, Int.reduceToNat, ↓reduceIte, List.reduceReplicate, Nat.reduceAdd, Nat.reduceSub, Nat.reduceMul, Nat.reduceLT, Nat.reduceLeDiff, Nat.reduceBEq, Nat.reduceEqDiff, f7]
    refine .inr ⟨he, _, rfl, ?_⟩
    rw [← hOe, hsT]
    exact Got.row (hLl _) List.mem_cons_self (fun h => by cases h)
  have hQ : ∃ Q : Nat, T - s = Q := ⟨_, rfl⟩
  obtain ⟨Q, hQ⟩ := hQ
  have eQ : (T : Int) - (s : Int) = (Q : Int) := by omega
  have f7 : ((Q : Int) ≥ 0) = True := eq_true (by omega)
  have f8 : IntKind.i64.wrap ((Q : Int) - 1) = (T : Int) - ((s + 1 : Nat) : Int) := (wrap_id (by omega)).trans (by omega)
  refine ⟨?_⟩
  simp (config := { maxSteps := 4000000 }) only [↓sx0, ↓sx1, ↓sx2, ↓sx3, ↓sx4, ↓sx5, ↓sx6, sx0, sx1, sx2, sx3, sx4, sx5, sx6, tf48, ev3_hold, sxo, sxc, sxp, sxq, sxr, sxs, sxl, sxm, Int.reduceBEq, Int.reduceBNe, Int.reduceLT, Int.reduceLE, Int.reduceEq, Int.reduceGT, Int.reduceGE, Int.reduceToNat, ↓reduceIte, List.reduceReplicate, Nat.reduceAdd, Nat.reduceSub, Nat.reduceMul, Nat.reduceLT, Nat.reduceLeDiff, Nat.reduceBEq, Nat.reduceEqDiff, eQ, f7, detR_eq, e6]
  refine ⟨by omega, by omega, by omega, fun bn => ?_⟩
  rw [hFe, hBe]
  have hDF : (Df s).length = F.length := (hDl s).trans hFl.symm
  have hML : (Lf (s + 1)).length = (Lf s).length := (hLl _).trans (hLl _).symm
  refine loop_constH [RB bn (mixL (Df s) F 0), RO (mixL (Lf (s + 1)) (Lf s) 0), RB bp (Cf s)] (by rw [mixL_zero, mixL_zero]; exact HImp.refl _ _) [(16, 18), (50, 124)] (fun i : Nat => [(16, I i)])
    (fun i H1 => i ≤ c.depth.length ∧ H1 = [RB bn (mixL (Df s) F i), RO (mixL (Lf (s + 1)) (Lf s) i), RB bp (Cf s)]) (fun i => c.depth.length - i) 0 ?_ ⟨Nat.zero_le _, rfl⟩ ?_
  · simp (config := { maxSteps := 4000000 }) only [↓sx0, ↓sx1, ↓sx2, ↓sx3, ↓sx4, ↓sx5, ↓sx6, sx0, sx1, sx2, sx3, sx4, sx5, sx6, tf48, ev3_hold, sxo, sxc, sxp, sxq, sxr, sxs, sxl, sxm, Int.reduceBEq, Int.reduceBNe, Int.reduceLT, Int.reduceLE, Int.reduceEq, Int.reduceGT, Int.reduceGE, Int.reduceToNat, ↓reduceIte, List.reduceReplicate, Nat.reduceAdd, Nat.reduceSub, Nat.reduceMul, Nat.reduceLT, Nat.reduceLeDiff, Nat.reduceBEq, Nat.reduceEqDiff]
    simp
  clear e7 hi hme
  rintro i H1 g3 ⟨hi, rfl⟩
  by_cases hin : i = c.depth.length
  · have q7 : ((i : Int) < (c.depth.length : Int)) = False := eq_false (by omega)
    have k1 : mixL (Df s) F i = Df s := by
      rw [hin]
      have := mixL_end hDF
      rwa [hDl] at this
    have k2 : mixL (Lf (s + 1)) (Lf s) i = Lf (s + 1) := by
      rw [hin]
      have := mixL_end hML
      rwa [hLl] at this
    have k3 := hCs s
    refine ⟨?_⟩
    simp (config := { maxSteps := 4000000 }) only [↓sx0, ↓sx1, ↓sx2, ↓sx3, ↓sx4, ↓sx5, ↓sx6, sx0, sx1, sx2, sx3, sx4, sx5, sx6, tf48, ev3_hold, sxo, sxc, sxp, sxq, sxr, sxs, sxl, sxm, Int.reduceBEq, Int.reduceBNe, Int.reduceLT, Int.reduceLE, Int.reduceEq, Int.reduceGT, Int.reduceGE, Int.reduceToNat, ↓reduceIte, List.reduceReplicate, Nat.reduceAdd, Nat.reduceSub, Nat.reduceMul, Nat.reduceLT, Nat.reduceLeDiff, Nat.reduceBEq, Nat.reduceEqDiff, q7, f8, k1, k2]
    refine ⟨(s + 1, bn), _, ⟨rfl, rfl⟩, (HImp.sub (List.Sublist.cons_cons _ (List.Sublist.cons_cons _ (List.nil_sublist _)))).trans (HImp.swap _ _ _ _), ⟨by omega, ?_⟩, by omega⟩
    simp only []
    rw [k3]
  have q7 : ((i : Int) < (c.depth.length : Int)) = True := eq_true (by omega)
  have q8 : IntKind.i64.wrap ((i : Int) + 1) = ((i + 1 : Nat) : Int) := (wrap_id (by omega)).trans (by omega)
  have hDs := hDl s
  have hCq := hCl s
  have hLs := hLl (s + 1)
  have hcni := hcnd s i (by omega)
  have hsti := hstp s i (by omega)
  rw [hQ] at hcni hsti
  have hml := mixL_len hDF (i := i) (by omega)
  have hml2 := mixL_len hML (i := i) (by omega)
  have hset := mixL_set hDF (i := i) (by omega) false
  have hset2 := mixL_set hML (i := i) (by omega) 0
  have hsame2 := mixL_same hML (i := i) (by omega) 0
  have hat := mixL_at hDF (i := i) (by omega) false
  have hat2 := mixL_at hML (i := i) (by omega) 0
  rw [hF0] at hat
  have hset0 : mixL (Df s) F i = (mixL (Df s) F i).set i false := (set_own hat).symm
  have hnl := nbL_len c.W c.H i
  refine ⟨?_⟩
  simp (config := { maxSteps := 4000000 }) only [↓sx0, ↓sx1, ↓sx2, ↓sx3, ↓sx4, ↓sx5, ↓sx6, sx0, sx1, sx2, sx3, sx4, sx5, sx6, tf48, ev3_hold, sxo, sxc, sxp, sxq, sxr, sxs, sxl, sxm, Int.reduceBEq, Int.reduceBNe, Int.reduceLT, Int.reduceLE, Int.reduceEq, Int.reduceGT, Int.reduceGE, Int.reduceToNat, ↓reduceIte, List.reduceReplicate, Nat.reduceAdd, Nat.reduceSub, Nat.reduceMul, Nat.reduceLT, Nat.reduceLeDiff, Nat.reduceBEq, Nat.reduceEqDiff, q7, dn]
  refine CallOb.pureH (fun w' hp => rnear_fn w' (hw.hp hp) _ c (hc0.hp hp) hok i (by omega)) ?_
  rintro r2 N1 hnb
  have hshp := hnb.shape
  obtain ⟨adb, cpb, rfl⟩ := hshp
  have hnl2 : (nts (nbL c.W c.H i)).length = (nbL c.W c.H i).length := by simp
  rw [hnl2] at hnb ⊢
  have hrn : ∀ G, (∀ h ∈ N1, h ∈ G) → Rdv ⟨w, fun _ => False⟩ G (.slice adb (nbL c.W c.H i).length cpb) 1 (ints (nts (nbL c.W c.H i))) := fun G hG => hnb.rdv i1_len hG
  refine ⟨?_⟩
  simp (config := { maxSteps := 4000000 }) only [↓sx0, ↓sx1, ↓sx2, ↓sx3, ↓sx4, ↓sx5, ↓sx6, sx0, sx1, sx2, sx3, sx4, sx5, sx6, tf48, ev3_hold, sxo, sxc, sxp, sxq, sxr, sxs, sxl, sxm, Int.reduceBEq, Int.reduceBNe, Int.reduceLT, Int.reduceLE, Int.reduceEq, Int.reduceGT, Int.reduceGE, Int.reduceToNat, ↓reduceIte, List.reduceReplicate, Nat.reduceAdd, Nat.reduceSub, Nat.reduceMul, Nat.reduceLT, Nat.reduceLeDiff, Nat.reduceBEq, Nat.reduceEqDiff]
  refine loop_constH (N1 ++ RB bn ((mixL (Df s) F i).set i false) :: [RO (mixL (Lf (s + 1)) (Lf s) i), RB bp (Cf s)]) (by rw [← hset0]; exact HImp.refl _ _) [(18, 18), (59, 95)] (fun k : Nat => [(18, I k)])
    (fun k H1 => k ≤ (nbL c.W c.H i).length ∧ ∃ u, u = ((nbL c.W c.H i).take k).any (cnf s i) ∧ H1 = N1 ++ RB bn ((mixL (Df s) F i).set i u) :: [RO (mixL (Lf (s + 1)) (Lf s) i), RB bp (Cf s)]) (fun k => (nbL c.W c.H i).length - k) 0 ?_ ⟨Nat.zero_le _, false, rfl, rfl⟩ ?_
  · simp (config := { maxSteps := 4000000 }) only [↓sx0, ↓sx1, ↓sx2, ↓sx3, ↓sx4, ↓sx5, ↓sx6, sx0, sx1, sx2, sx3, sx4, sx5, sx6, tf48, ev3_hold, sxo, sxc, sxp, sxq, sxr, sxs, sxl, sxm, Int.reduceBEq, Int.reduceBNe, Int.reduceLT, Int.reduceLE, Int.reduceEq, Int.reduceGT, Int.reduceGE, Int.reduceToNat, ↓reduceIte, List.reduceReplicate, Nat.reduceAdd, Nat.reduceSub, Nat.reduceMul, Nat.reduceLT, Nat.reduceLeDiff, Nat.reduceBEq, Nat.reduceEqDiff]
    simp
  rintro k H1 g4 ⟨hk, u, hu, rfl⟩
  have hsl : ((mixL (Df s) F i).set i u).length = c.depth.length := by rw [List.length_set]; omega
  have hui : ((mixL (Df s) F i).set i u)[i]? = some u := List.getElem?_set_self (by omega)
  by_cases hkn : k = (nbL c.W c.H i).length
  · have p7 : ((k : Int) < ((nbL c.W c.H i).length : Int)) = False := eq_false (by omega)
    rw [hkn, List.take_length] at hu
    rw [← hu] at hcni
    refine ⟨?_⟩
    have hfin : ∀ (d : Bool), (Df s).getD i false = d → (mixL (Df s) F i).set i d = mixL (Df s) F (i + 1) := fun d h => by rw [← hset, h]
    have hmm : ∀ (d : Bool) (G : List HO), RB bn ((mixL (Df s) F i).set i d) ∈ G ++ RB bn ((mixL (Df s) F i).set i d) :: [RO (mixL (Lf (s + 1)) (Lf s) i), RB bp (Cf s)] := fun d G => by simp
    have hmo : ∀ (d : Bool) (G : List HO), RO (mixL (Lf (s + 1)) (Lf s) i) ∈ G ++ RB bn ((mixL (Df s) F i).set i d) :: [RO (mixL (Lf (s + 1)) (Lf s) i), RB bp (Cf s)] := fun d G => by simp
    have hsl2 : ∀ d : Bool, ((mixL (Df s) F i).set i d).length = c.depth.length := fun d => by rw [List.length_set]; omega
    have hui2 : ∀ d : Bool, ((mixL (Df s) F i).set i d)[i]? = some d := fun d => List.getElem?_set_self (by omega)
    cases u with
    | false =>
      have hd : (Df s).getD i false = false := hcni
      rw [hd] at hsti
      simp only [Bool.false_eq_true, false_and, if_false] at hsti
      simp (config := { maxSteps := 4000000 }) only [↓sx0, ↓sx1, ↓sx2, ↓sx3, ↓sx4, ↓sx5, ↓sx6, sx0, sx1, sx2, sx3, sx4, sx5, sx6, tf48, ev3_hold, sxo, sxc, sxp, sxq, sxr, sxs, sxl, sxm, Int.reduceBEq, Int.reduceBNe, Int.reduceLT, Int.reduceLE, Int.reduceEq, Int.reduceGT, Int.reduceGE, Int.reduceToNat, ↓reduceIte, List.reduceReplicate, Nat.reduceAdd, Nat.reduceSub, Nat.reduceMul, Nat.reduceLT, Nat.reduceLeDiff, Nat.reduceBEq, Nat.reduceEqDiff, p7, q7]
      refine ⟨by omega, _, rfl, ?_⟩
      refine ld_at1 (hrB bn _ hsl _ (hmm _ _)) b1_len hui rfl ?_
      simp (config := { maxSteps := 4000000 }) only [↓sx0, ↓sx1, ↓sx2, ↓sx3, ↓sx4, ↓sx5, ↓sx6, sx0, sx1, sx2, sx3, sx4, sx5, sx6, tf48, ev3_hold, sxo, sxc, sxp, sxq, sxr, sxs, sxl, sxm, Int.reduceBEq, Int.reduceBNe, Int.reduceLT, Int.reduceLE, Int.reduceEq, Int.reduceGT, Int.reduceGE, Int.reduceToNat, ↓reduceIte, List.reduceReplicate, Nat.reduceAdd, Nat.reduceSub, Nat.reduceMul, Nat.reduceLT, Nat.reduceLeDiff, Nat.reduceBEq, Nat.reduceEqDiff, q7]
      refine ⟨by omega, _, rfl, ?_⟩
      rw [← hBe bn]
      refine wr_at (A := N1) (l := (mixL (Df s) F i).set i false) (k := i) (u := false) rfl b1_len hsl (by omega) ?_
      rw [hBe, List.set_set]
      simp (config := { maxSteps := 4000000 }) only [↓sx0, ↓sx1, ↓sx2, ↓sx3, ↓sx4, ↓sx5, ↓sx6, sx0, sx1, sx2, sx3, sx4, sx5, sx6, tf48, ev3_hold, sxo, sxc, sxp, sxq, sxr, sxs, sxl, sxm, Int.reduceBEq, Int.reduceBNe, Int.reduceLT, Int.reduceLE, Int.reduceEq, Int.reduceGT, Int.reduceGE, Int.reduceToNat, ↓reduceIte, List.reduceReplicate, Nat.reduceAdd, Nat.reduceSub, Nat.reduceMul, Nat.reduceLT, Nat.reduceLeDiff, Nat.reduceBEq, Nat.reduceEqDiff, q7]
      refine ⟨by omega, _, rfl, ?_⟩
      refine ld_at1 (hrB bn _ (hsl2 _) _ (hmm _ _)) b1_len (hui2 _) rfl ?_
      simp (config := { maxSteps := 4000000 }) only [↓sx0, ↓sx1, ↓sx2, ↓sx3, ↓sx4, ↓sx5, ↓sx6, sx0, sx1, sx2, sx3, sx4, sx5, sx6, tf48, ev3_hold, sxo, sxc, sxp, sxq, sxr, sxs, sxl, sxm, Int.reduceBEq, Int.reduceBNe, Int.reduceLT, Int.reduceLE, Int.reduceEq, Int.reduceGT, Int.reduceGE, Int.reduceToNat, ↓reduceIte, List.reduceReplicate, Nat.reduceAdd, Nat.reduceSub, Nat.reduceMul, Nat.reduceLT, Nat.reduceLeDiff, Nat.reduceBEq, Nat.reduceEqDiff, q8]
      refine ⟨i + 1, _, rfl, HImp.app _ _ _, ⟨by omega, ?_⟩, by omega⟩
      rw [hfin _ hd, hsame2 hsti]
    | true =>
    simp (config := { maxSteps := 4000000 }) only [↓sx0, ↓sx1, ↓sx2, ↓sx3, ↓sx4, ↓sx5, ↓sx6, sx0, sx1, sx2, sx3, sx4, sx5, sx6, tf48, ev3_hold, sxo, sxc, sxp, sxq, sxr, sxs, sxl, sxm, Int.reduceBEq, Int.reduceBNe, Int.reduceLT, Int.reduceLE, Int.reduceEq, Int.reduceGT, Int.reduceGE, Int.reduceToNat, ↓reduceIte, List.reduceReplicate, Nat.reduceAdd, Nat.reduceSub, Nat.reduceMul, Nat.reduceLT, Nat.reduceLeDiff, Nat.reduceBEq, Nat.reduceEqDiff, p7, q7]
    refine ⟨by omega, _, rfl, ?_⟩
    refine ld_at1 (hrB bn _ hsl _ (hmm _ _)) b1_len hui rfl ?_
    simp (config := { maxSteps := 4000000 }) only [↓sx0, ↓sx1, ↓sx2, ↓sx3, ↓sx4, ↓sx5, ↓sx6, sx0, sx1, sx2, sx3, sx4, sx5, sx6, tf48, ev3_hold, sxo, sxc, sxp, sxq, sxr, sxs, sxl, sxm, Int.reduceBEq, Int.reduceBNe, Int.reduceLT, Int.reduceLE, Int.reduceEq, Int.reduceGT, Int.reduceGE, Int.reduceToNat, ↓reduceIte, List.reduceReplicate, Nat.reduceAdd, Nat.reduceSub, Nat.reduceMul, Nat.reduceLT, Nat.reduceLeDiff, Nat.reduceBEq, Nat.reduceEqDiff, dn, eQ]
    refine CallOb.pureH (fun w' hp => sure_fn w' _ c (hc0.hp hp) hok g i Q (by omega) (by omega)) ?_
    intro r3 N3 hr3
    cases hf : c.flt g Q i with
    | false =>
      have hr4 : r3 = .bool false := hr3.trans (congrArg _ hf)
      subst hr4
      have hd : (Df s).getD i false = false := by rw [hcni, hf]; rfl
      rw [hd] at hsti
      simp only [Bool.false_eq_true, false_and, if_false] at hsti
      refine ⟨?_⟩
      simp (config := { maxSteps := 4000000 }) only [↓sx0, ↓sx1, ↓sx2, ↓sx3, ↓sx4, ↓sx5, ↓sx6, sx0, sx1, sx2, sx3, sx4, sx5, sx6, tf48, ev3_hold, sxo, sxc, sxp, sxq, sxr, sxs, sxl, sxm, Int.reduceBEq, Int.reduceBNe, Int.reduceLT, Int.reduceLE, Int.reduceEq, Int.reduceGT, Int.reduceGE, Int.reduceToNat, ↓reduceIte, List.reduceReplicate, Nat.reduceAdd, Nat.reduceSub, Nat.reduceMul, Nat.reduceLT, Nat.reduceLeDiff, Nat.reduceBEq, Nat.reduceEqDiff, q7]
      refine ⟨by omega, _, rfl, ?_⟩
      rw [← hBe bn]
      refine wr_at (A := N3 ++ N1) (l := (mixL (Df s) F i).set i true) (k := i) (u := false) (List.append_assoc _ _ _).symm b1_len hsl (by omega) ?_
      rw [hBe, List.set_set]
      simp (config := { maxSteps := 4000000 }) only [↓sx0, ↓sx1, ↓sx2, ↓sx3, ↓sx4, ↓sx5, ↓sx6, sx0, sx1, sx2, sx3, sx4, sx5, sx6, tf48, ev3_hold, sxo, sxc, sxp, sxq, sxr, sxs, sxl, sxm, Int.reduceBEq, Int.reduceBNe, Int.reduceLT, Int.reduceLE, Int.reduceEq, Int.reduceGT, Int.reduceGE, Int.reduceToNat, ↓reduceIte, List.reduceReplicate, Nat.reduceAdd, Nat.reduceSub, Nat.reduceMul, Nat.reduceLT, Nat.reduceLeDiff, Nat.reduceBEq, Nat.reduceEqDiff, q7]
      refine ⟨by omega, _, rfl, ?_⟩
      refine ld_at1 (hrB bn _ (hsl2 _) _ (hmm _ _)) b1_len (hui2 _) rfl ?_
      simp (config := { maxSteps := 4000000 }) only [↓sx0, ↓sx1, ↓sx2, ↓sx3, ↓sx4, ↓sx5, ↓sx6, sx0, sx1, sx2, sx3, sx4, sx5, sx6, tf48, ev3_hold, sxo, sxc, sxp, sxq, sxr, sxs, sxl, sxm, Int.reduceBEq, Int.reduceBNe, Int.reduceLT, Int.reduceLE, Int.reduceEq, Int.reduceGT, Int.reduceGE, Int.reduceToNat, ↓reduceIte, List.reduceReplicate, Nat.reduceAdd, Nat.reduceSub, Nat.reduceMul, Nat.reduceLT, Nat.reduceLeDiff, Nat.reduceBEq, Nat.reduceEqDiff, q8]
      refine ⟨i + 1, _, rfl, HImp.app _ _ _, ⟨by omega, ?_⟩, by omega⟩
      rw [hfin _ hd, hsame2 hsti]
    | true =>
      have hr4 : r3 = .bool true := hr3.trans (congrArg _ hf)
      subst hr4
      have hd : (Df s).getD i false = true := by rw [hcni, hf]; rfl
      rw [hd] at hsti
      have hmxl : (mixL (Lf (s + 1)) (Lf s) i).length = c.depth.length := by omega
      refine ⟨?_⟩
      simp (config := { maxSteps := 4000000 }) only [↓sx0, ↓sx1, ↓sx2, ↓sx3, ↓sx4, ↓sx5, ↓sx6, sx0, sx1, sx2, sx3, sx4, sx5, sx6, tf48, ev3_hold, sxo, sxc, sxp, sxq, sxr, sxs, sxl, sxm, Int.reduceBEq, Int.reduceBNe, Int.reduceLT, Int.reduceLE, Int.reduceEq, Int.reduceGT, Int.reduceGE, Int.reduceToNat, ↓reduceIte, List.reduceReplicate, Nat.reduceAdd, Nat.reduceSub, Nat.reduceMul, Nat.reduceLT, Nat.reduceLeDiff, Nat.reduceBEq, Nat.reduceEqDiff, q7]
      refine ⟨by omega, _, rfl, ?_⟩
      rw [← hBe bn]
      refine wr_at (A := N3 ++ N1) (l := (mixL (Df s) F i).set i true) (k := i) (u := true) (List.append_assoc _ _ _).symm b1_len hsl (by omega) ?_
      rw [hBe, List.set_set]
      simp (config := { maxSteps := 4000000 }) only [↓sx0, ↓sx1, ↓sx2, ↓sx3, ↓sx4, ↓sx5, ↓sx6, sx0, sx1, sx2, sx3, sx4, sx5, sx6, tf48, ev3_hold, sxo, sxc, sxp, sxq, sxr, sxs, sxl, sxm, Int.reduceBEq, Int.reduceBNe, Int.reduceLT, Int.reduceLE, Int.reduceEq, Int.reduceGT, Int.reduceGE, Int.reduceToNat, ↓reduceIte, List.reduceReplicate, Nat.reduceAdd, Nat.reduceSub, Nat.reduceMul, Nat.reduceLT, Nat.reduceLeDiff, Nat.reduceBEq, Nat.reduceEqDiff, q7]
      refine ⟨by omega, _, rfl, ?_⟩
      refine ld_at1 (hrB bn _ (hsl2 _) _ (hmm _ _)) b1_len (hui2 _) rfl ?_
      simp (config := { maxSteps := 4000000 }) only [↓sx0, ↓sx1, ↓sx2, ↓sx3, ↓sx4, ↓sx5, ↓sx6, sx0, sx1, sx2, sx3, sx4, sx5, sx6, tf48, ev3_hold, sxo, sxc, sxp, sxq, sxr, sxs, sxl, sxm, Int.reduceBEq, Int.reduceBNe, Int.reduceLT, Int.reduceLE, Int.reduceEq, Int.reduceGT, Int.reduceGE, Int.reduceToNat, ↓reduceIte, List.reduceReplicate, Nat.reduceAdd, Nat.reduceSub, Nat.reduceMul, Nat.reduceLT, Nat.reduceLeDiff, Nat.reduceBEq, Nat.reduceEqDiff, q7]
      refine ⟨by omega, _, rfl, ?_⟩
      refine ld_at1 (hrO _ hmxl _ (hmo _ _)) i1_len hat2 rfl ?_
      by_cases hl0 : (Lf s).getD i 0 < 0
      · have k4 : ((Lf s).getD i 0 < 0) = True := eq_true hl0
        rw [if_pos ⟨rfl, hl0⟩] at hsti
        rw [hsti] at hset2
        simp (config := { maxSteps := 4000000 }) only [↓sx0, ↓sx1, ↓sx2, ↓sx3, ↓sx4, ↓sx5, ↓sx6, sx0, sx1, sx2, sx3, sx4, sx5, sx6, tf48, ev3_hold, sxo, sxc, sxp, sxq, sxr, sxs, sxl, sxm, Int.reduceBEq, Int.reduceBNe, Int.reduceLT, Int.reduceLE, Int.reduceEq, Int.reduceGT, Int.reduceGE, Int.reduceToNat, ↓reduceIte, List.reduceReplicate, Nat.reduceAdd, Nat.reduceSub, Nat.reduceMul, Nat.reduceLT, Nat.reduceLeDiff, Nat.reduceBEq, Nat.reduceEqDiff, k4, q7]
        refine ⟨by omega, _, rfl, ?_⟩
        rw [← hOe]
        refine wr_at (A := (N3 ++ N1) ++ [RB bn ((mixL (Df s) F i).set i true)]) (B := [RB bp (Cf s)]) (l := mixL (Lf (s + 1)) (Lf s) i) (k := i) (u := (Q : Int)) (List.append_assoc _ _ _).symm i1_len hmxl (by omega) ?_
        rw [hOe, hset2]
        simp (config := { maxSteps := 4000000 }) only [↓sx0, ↓sx1, ↓sx2, ↓sx3, ↓sx4, ↓sx5, ↓sx6, sx0, sx1, sx2, sx3, sx4, sx5, sx6, tf48, ev3_hold, sxo, sxc, sxp, sxq, sxr, sxs, sxl, sxm, Int.reduceBEq, Int.reduceBNe, Int.reduceLT, Int.reduceLE, Int.reduceEq, Int.reduceGT, Int.reduceGE, Int.reduceToNat, ↓reduceIte, List.reduceReplicate, Nat.reduceAdd, Nat.reduceSub, Nat.reduceMul, Nat.reduceLT, Nat.reduceLeDiff, Nat.reduceBEq, Nat.reduceEqDiff, q8]
        refine ⟨i + 1, [RB bn ((mixL (Df s) F i).set i true), RO (mixL (Lf (s + 1)) (Lf s) (i + 1)), RB bp (Cf s)], rfl, ?_, ⟨by omega, ?_⟩, by omega⟩
        · have h := HImp.app ⟨w, fun _ => False⟩ (N3 ++ N1) [RB bn ((mixL (Df s) F i).set i true), RO (mixL (Lf (s + 1)) (Lf s) (i + 1)), RB bp (Cf s)]
          simpa using h
        · rw [← hfin _ hd]
      · have k4 : ((Lf s).getD i 0 < 0) = False := eq_false hl0
        rw [if_neg (fun h => hl0 h.2)] at hsti
        simp (config := { maxSteps := 4000000 }) only [↓sx0, ↓sx1, ↓sx2, ↓sx3, ↓sx4, ↓sx5, ↓sx6, sx0, sx1, sx2, sx3, sx4, sx5, sx6, tf48, ev3_hold, sxo, sxc, sxp, sxq, sxr, sxs, sxl, sxm, Int.reduceBEq, Int.reduceBNe, Int.reduceLT, Int.reduceLE, Int.reduceEq, Int.reduceGT, Int.reduceGE, Int.reduceToNat, ↓reduceIte, List.reduceReplicate, Nat.reduceAdd, Nat.reduceSub, Nat.reduceMul, Nat.reduceLT, Nat.reduceLeDiff, Nat.reduceBEq, Nat.reduceEqDiff, k4, q8]
        refine ⟨i + 1, _, rfl, HImp.app _ _ _, ⟨by omega, ?_⟩, by omega⟩
        rw [hfin _ hd, hsame2 hsti]
  have p7 : ((k : Int) < ((nbL c.W c.H i).length : Int)) = True := eq_true (by omega)
  have p8 : IntKind.i64.wrap ((k : Int) + 1) = ((k + 1 : Nat) : Int) := (wrap_id (by omega)).trans (by omega)
  have hy0 : ∃ y, (nbL c.W c.H i)[k]? = some y := ⟨_, List.getElem?_eq_getElem (by omega)⟩
  obtain ⟨y, hy⟩ := hy0
  have hyN := nbL_lt (show i < c.W * c.H by omega) y (List.mem_of_getElem? hy)
  have hyI : (nts (nbL c.W c.H i))[k]? = some (y : Int) := by rw [List.getElem?_map, hy]; rfl
  have htk : (nbL c.W c.H i).take (k + 1) = (nbL c.W c.H i).take k ++ [y] := by rw [List.take_add_one, hy]; rfl
  have hany : ((nbL c.W c.H i).take (k + 1)).any (cnf s i) = (u || cnf s i y) := by
    rw [htk, List.any_append, ← hu]
    simp
  have hyl : (Cf s)[y]? = some ((Cf s).getD y false) := getD_at (by omega) false
  have hmb : RB bn ((mixL (Df s) F i).set i u) ∈ N1 ++ RB bn ((mixL (Df s) F i).set i u) :: [RO (mixL (Lf (s + 1)) (Lf s) i), RB bp (Cf s)] := by simp
  have hmc : RB bp (Cf s) ∈ N1 ++ RB bn ((mixL (Df s) F i).set i u) :: [RO (mixL (Lf (s + 1)) (Lf s) i), RB bp (Cf s)] := by simp
  have hmn : ∀ h ∈ N1, h ∈ N1 ++ RB bn ((mixL (Df s) F i).set i u) :: [RO (mixL (Lf (s + 1)) (Lf s) i), RB bp (Cf s)] := fun h hh => by simp [hh]
  cases u with
  | true =>
    refine ⟨?_⟩
    simp (config := { maxSteps := 4000000 }) only [↓sx0, ↓sx1, ↓sx2, ↓sx3, ↓sx4, ↓sx5, ↓sx6, sx0, sx1, sx2, sx3, sx4, sx5, sx6, tf48, ev3_hold, sxo, sxc, sxp, sxq, sxr, sxs, sxl, sxm, Int.reduceBEq, Int.reduceBNe, Int.reduceLT, Int.reduceLE, Int.reduceEq, Int.reduceGT, Int.reduceGE, Int.reduceToNat, ↓reduceIte, List.reduceReplicate, Nat.reduceAdd, Nat.reduceSub, Nat.reduceMul, Nat.reduceLT, Nat.reduceLeDiff, Nat.reduceBEq, Nat.reduceEqDiff, p7, q7]
    refine ⟨by omega, _, rfl, ?_⟩
    refine ld_at1 (hrB bn _ hsl _ hmb) b1_len hui rfl ?_
    simp (config := { maxSteps := 4000000 }) only [↓sx0, ↓sx1, ↓sx2, ↓sx3, ↓sx4, ↓sx5, ↓sx6, sx0, sx1, sx2, sx3, sx4, sx5, sx6, tf48, ev3_hold, sxo, sxc, sxp, sxq, sxr, sxs, sxl, sxm, Int.reduceBEq, Int.reduceBNe, Int.reduceLT, Int.reduceLE, Int.reduceEq, Int.reduceGT, Int.reduceGE, Int.reduceToNat, ↓reduceIte, List.reduceReplicate, Nat.reduceAdd, Nat.reduceSub, Nat.reduceMul, Nat.reduceLT, Nat.reduceLeDiff, Nat.reduceBEq, Nat.reduceEqDiff, q7]
    refine ⟨by omega, _, rfl, ?_⟩
    rw [← hBe bn]
    refine wr_at (A := N1) (l := (mixL (Df s) F i).set i true) (k := i) (u := true) rfl b1_len hsl (by omega) ?_
    rw [hBe, List.set_set]
    simp (config := { maxSteps := 4000000 }) only [↓sx0, ↓sx1, ↓sx2, ↓sx3, ↓sx4, ↓sx5, ↓sx6, sx0, sx1, sx2, sx3, sx4, sx5, sx6, tf48, ev3_hold, sxo, sxc, sxp, sxq, sxr, sxs, sxl, sxm, Int.reduceBEq, Int.reduceBNe, Int.reduceLT, Int.reduceLE, Int.reduceEq, Int.reduceGT, Int.reduceGE, Int.reduceToNat, ↓reduceIte, List.reduceReplicate, Nat.reduceAdd, Nat.reduceSub, Nat.reduceMul, Nat.reduceLT, Nat.reduceLeDiff, Nat.reduceBEq, Nat.reduceEqDiff, p8]
    exact ⟨k + 1, _, rfl, HImp.refl _ _, ⟨by omega, true, by rw [hany]; rfl, rfl⟩, by omega⟩
  | false =>
  by_cases hs0 : s = 0
  · have o1 : ((Q : Int) = (T : Int)) = True := eq_true (by omega)
    have o2 : ((Q : Int) < (T : Int)) = False := eq_false (by omega)
    by_cases hiB : i = B
    · have o3 : ((i : Int) = (B : Int)) = True := eq_true (by omega)
      refine ⟨?_⟩
      simp (config := { maxSteps := 4000000 }) only [↓sx0, ↓sx1, ↓sx2, ↓sx3, ↓sx4, ↓sx5, ↓sx6, sx0, sx1, sx2, sx3, sx4, sx5, sx6, tf48, ev3_hold, sxo, sxc, sxp, sxq, sxr, sxs, sxl, sxm, Int.reduceBEq, Int.reduceBNe, Int.reduceLT, Int.reduceLE, Int.reduceEq, Int.reduceGT, Int.reduceGE, Int.reduceToNat, ↓reduceIte, List.reduceReplicate, Nat.reduceAdd, Nat.reduceSub, Nat.reduceMul, Nat.reduceLT, Nat.reduceLeDiff, Nat.reduceBEq, Nat.reduceEqDiff, p7, q7]
      refine ⟨by omega, _, rfl, ?_⟩
      refine ld_at1 (hrB bn _ hsl _ hmb) b1_len hui rfl ?_
      simp (config := { maxSteps := 4000000 }) only [↓sx0, ↓sx1, ↓sx2, ↓sx3, ↓sx4, ↓sx5, ↓sx6, sx0, sx1, sx2, sx3, sx4, sx5, sx6, tf48, ev3_hold, sxo, sxc, sxp, sxq, sxr, sxs, sxl, sxm, Int.reduceBEq, Int.reduceBNe, Int.reduceLT, Int.reduceLE, Int.reduceEq, Int.reduceGT, Int.reduceGE, Int.reduceToNat, ↓reduceIte, List.reduceReplicate, Nat.reduceAdd, Nat.reduceSub, Nat.reduceMul, Nat.reduceLT, Nat.reduceLeDiff, Nat.reduceBEq, Nat.reduceEqDiff, q7, o1, o2, o3]
      refine ⟨by omega, _, rfl, ?_⟩
      rw [← hBe bn]
      refine wr_at (A := N1) (l := (mixL (Df s) F i).set i false) (k := i) (u := true) rfl b1_len hsl (by omega) ?_
      rw [hBe, List.set_set]
      simp (config := { maxSteps := 4000000 }) only [↓sx0, ↓sx1, ↓sx2, ↓sx3, ↓sx4, ↓sx5, ↓sx6, sx0, sx1, sx2, sx3, sx4, sx5, sx6, tf48, ev3_hold, sxo, sxc, sxp, sxq, sxr, sxs, sxl, sxm, Int.reduceBEq, Int.reduceBNe, Int.reduceLT, Int.reduceLE, Int.reduceEq, Int.reduceGT, Int.reduceGE, Int.reduceToNat, ↓reduceIte, List.reduceReplicate, Nat.reduceAdd, Nat.reduceSub, Nat.reduceMul, Nat.reduceLT, Nat.reduceLeDiff, Nat.reduceBEq, Nat.reduceEqDiff, p8]
      exact ⟨k + 1, _, rfl, HImp.refl _ _, ⟨by omega, true, by rw [hany, hcn0 s _ _ hs0, decide_eq_true hiB]; rfl, rfl⟩, by omega⟩
    · have o3 : ((i : Int) = (B : Int)) = False := eq_false (by omega)
      refine ⟨?_⟩
      simp (config := { maxSteps := 4000000 }) only [↓sx0, ↓sx1, ↓sx2, ↓sx3, ↓sx4, ↓sx5, ↓sx6, sx0, sx1, sx2, sx3, sx4, sx5, sx6, tf48, ev3_hold, sxo, sxc, sxp, sxq, sxr, sxs, sxl, sxm, Int.reduceBEq, Int.reduceBNe, Int.reduceLT, Int.reduceLE, Int.reduceEq, Int.reduceGT, Int.reduceGE, Int.reduceToNat, ↓reduceIte, List.reduceReplicate, Nat.reduceAdd, Nat.reduceSub, Nat.reduceMul, Nat.reduceLT, Nat.reduceLeDiff, Nat.reduceBEq, Nat.reduceEqDiff, p7, q7]
      refine ⟨by omega, _, rfl, ?_⟩
      refine ld_at1 (hrB bn _ hsl _ hmb) b1_len hui rfl ?_
      simp (config := { maxSteps := 4000000 }) only [↓sx0, ↓sx1, ↓sx2, ↓sx3, ↓sx4, ↓sx5, ↓sx6, sx0, sx1, sx2, sx3, sx4, sx5, sx6, tf48, ev3_hold, sxo, sxc, sxp, sxq, sxr, sxs, sxl, sxm, Int.reduceBEq, Int.reduceBNe, Int.reduceLT, Int.reduceLE, Int.reduceEq, Int.reduceGT, Int.reduceGE, Int.reduceToNat, ↓reduceIte, List.reduceReplicate, Nat.reduceAdd, Nat.reduceSub, Nat.reduceMul, Nat.reduceLT, Nat.reduceLeDiff, Nat.reduceBEq, Nat.reduceEqDiff, q7, o1, o2, o3]
      refine ⟨by omega, _, rfl, ?_⟩
      rw [← hBe bn]
      refine wr_at (A := N1) (l := (mixL (Df s) F i).set i false) (k := i) (u := false) rfl b1_len hsl (by omega) ?_
      rw [hBe, List.set_set]
      simp (config := { maxSteps := 4000000 }) only [↓sx0, ↓sx1, ↓sx2, ↓sx3, ↓sx4, ↓sx5, ↓sx6, sx0, sx1, sx2, sx3, sx4, sx5, sx6, tf48, ev3_hold, sxo, sxc, sxp, sxq, sxr, sxs, sxl, sxm, Int.reduceBEq, Int.reduceBNe, Int.reduceLT, Int.reduceLE, Int.reduceEq, Int.reduceGT, Int.reduceGE, Int.reduceToNat, ↓reduceIte, List.reduceReplicate, Nat.reduceAdd, Nat.reduceSub, Nat.reduceMul, Nat.reduceLT, Nat.reduceLeDiff, Nat.reduceBEq, Nat.reduceEqDiff, p8]
      exact ⟨k + 1, _, rfl, HImp.refl _ _, ⟨by omega, false, by rw [hany, hcn0 s _ _ hs0, decide_eq_false hiB]; rfl, rfl⟩, by omega⟩
  have o1 : ((Q : Int) = (T : Int)) = False := eq_false (by omega)
  have o2 : ((Q : Int) < (T : Int)) = True := eq_true (by omega)
  refine ⟨?_⟩
  simp (config := { maxSteps := 4000000 }) only [↓sx0, ↓sx1, ↓sx2, ↓sx3, ↓sx4, ↓sx5, ↓sx6, sx0, sx1, sx2, sx3, sx4, sx5, sx6, tf48, ev3_hold, sxo, sxc, sxp, sxq, sxr, sxs, sxl, sxm, Int.reduceBEq, Int.reduceBNe, Int.reduceLT, Int.reduceLE, Int.reduceEq, Int.reduceGT, Int.reduceGE, Int.reduceToNat, ↓reduceIte, List.reduceReplicate, Nat.reduceAdd, Nat.reduceSub, Nat.reduceMul, Nat.reduceLT, Nat.reduceLeDiff, Nat.reduceBEq, Nat.reduceEqDiff, p7, q7]
  refine ⟨by omega, _, rfl, ?_⟩
  refine ld_at1 (hrB bn _ hsl _ hmb) b1_len hui rfl ?_
  simp (config := { maxSteps := 4000000 }) only [↓sx0, ↓sx1, ↓sx2, ↓sx3, ↓sx4, ↓sx5, ↓sx6, sx0, sx1, sx2, sx3, sx4, sx5, sx6, tf48, ev3_hold, sxo, sxc, sxp, sxq, sxr, sxs, sxl, sxm, Int.reduceBEq, Int.reduceBNe, Int.reduceLT, Int.reduceLE, Int.reduceEq, Int.reduceGT, Int.reduceGE, Int.reduceToNat, ↓reduceIte, List.reduceReplicate, Nat.reduceAdd, Nat.reduceSub, Nat.reduceMul, Nat.reduceLT, Nat.reduceLeDiff, Nat.reduceBEq, Nat.reduceEqDiff, o1, o2, p7]
  refine amid (at_1 (hrn _ hmn) i1_len hyI rfl fun ad1 => ?_)
  simp (config := { maxSteps := 4000000 }) only [↓sx0, ↓sx1, ↓sx2, ↓sx3, ↓sx4, ↓sx5, ↓sx6, sx0, sx1, sx2, sx3, sx4, sx5, sx6, tf48, ev3_hold, sxo, sxc, sxp, sxq, sxr, sxs, sxl, sxm, Int.reduceBEq, Int.reduceBNe, Int.reduceLT, Int.reduceLE, Int.reduceEq, Int.reduceGT, Int.reduceGE, Int.reduceToNat, ↓reduceIte, List.reduceReplicate, Nat.reduceAdd, Nat.reduceSub, Nat.reduceMul, Nat.reduceLT, Nat.reduceLeDiff, Nat.reduceBEq, Nat.reduceEqDiff]
  refine ⟨by omega, by omega, _, rfl, ?_⟩
  refine ld_at1 (hrB bp _ hCq _ hmc) b1_len hyl rfl ?_
  have hcy := hcn1 s i y hs0
  generalize (Cf s).getD y false = cy at hcy
  simp (config := { maxSteps := 4000000 }) only [↓sx0, ↓sx1, ↓sx2, ↓sx3, ↓sx4, ↓sx5, ↓sx6, sx0, sx1, sx2, sx3, sx4, sx5, sx6, tf48, ev3_hold, sxo, sxc, sxp, sxq, sxr, sxs, sxl, sxm, Int.reduceBEq, Int.reduceBNe, Int.reduceLT, Int.reduceLE, Int.reduceEq, Int.reduceGT, Int.reduceGE, Int.reduceToNat, ↓reduceIte, List.reduceReplicate, Nat.reduceAdd, Nat.reduceSub, Nat.reduceMul, Nat.reduceLT, Nat.reduceLeDiff, Nat.reduceBEq, Nat.reduceEqDiff, q7]
  refine ⟨by omega, _, rfl, ?_⟩
  rw [← hBe bn]
  refine wr_at (A := N1) (l := (mixL (Df s) F i).set i false) (k := i) (u := cy) rfl b1_len hsl (by omega) ?_
  rw [hBe, List.set_set]
  simp (config := { maxSteps := 4000000 }) only [↓sx0, ↓sx1, ↓sx2, ↓sx3, ↓sx4, ↓sx5, ↓sx6, sx0, sx1, sx2, sx3, sx4, sx5, sx6, tf48, ev3_hold, sxo, sxc, sxp, sxq, sxr, sxs, sxl, sxm, Int.reduceBEq, Int.reduceBNe, Int.reduceLT, Int.reduceLE, Int.reduceEq, Int.reduceGT, Int.reduceGE, Int.reduceToNat, ↓reduceIte, List.reduceReplicate, Nat.reduceAdd, Nat.reduceSub, Nat.reduceMul, Nat.reduceLT, Nat.reduceLeDiff, Nat.reduceBEq, Nat.reduceEqDiff, p8]
  exact ⟨k + 1, _, rfl, HImp.refl _ _, ⟨by omega, cy, by rw [hany, hcy]; rfl, rfl⟩, by omega⟩

end Go.Proofs.YtcnjhgnlcnmagaaDoor

