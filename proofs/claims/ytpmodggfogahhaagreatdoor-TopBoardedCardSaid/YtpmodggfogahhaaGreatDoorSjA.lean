/- A part of a proof: the symbolic walk and what it shows of single functions. -/
import Derived.Test.YtpmodggfogahhaaGreatDoorL2
import Derived.Test.YtpmodggfogahhaaGreatDoorH5
import Derived.Test.YtpmodggfogahhaaGreatDoorT1
set_option linter.all false
namespace Go.Proofs.YtpmodggfogahhaaGreatDoor
open Go.RowKit Go.SX
set_option maxRecDepth 20000
set_option maxHeartbeats 0
set_option linter.unusedSimpArgs false
set_option linter.unusedVariables false
theorem befB_short {y x : List Int} (h : y.length < x.length) : befB y x = true := by
  unfold befB
  rw [if_neg (by omega)]
  exact decide_eq_true h
theorem board_need {cs : List Cls} {people : Int} {x : List Int} (h : fstL (fun x => decide (seatsL cs x ≥ people)) cs.length = some x) : x.Sublist (idx cs.length) ∧ people ≤ seatsL cs x ∧ ∀ i, i < x.length → seatsL cs (x.take i) < people := by
  obtain ⟨h1, h2, h3⟩ := fst_some h
  refine ⟨h1, of_decide_eq_true h2, fun i hi => ?_⟩
  by_cases hn : seatsL cs (x.take i) < people
  · exact hn
  · have := h3 (x.take i) ((List.take_sublist i x).trans h1) (decide_eq_true (by omega))
    rw [befB_short (by rw [List.length_take]; omega)] at this
    cases this
theorem seats_take {cs : List Cls} {x : List Int} {i : Nat} {y : Int} (h : x[i]? = some y) : seatsL cs (x.take (i + 1)) = seatsL cs (x.take i) + seatAt cs y := sumB_take _ h
theorem seats_bd {cs : List Cls} (hg : ∀ b ∈ cs, clsB b = true) : ∀ x : List Int, 0 ≤ seatsL cs x ∧ seatsL cs x ≤ 40 * (x.length : Int)
  | [] => ⟨Int.le_refl _, Int.le_refl _⟩
  | y :: x => by
    have h1 := seats_bd hg x
    have h2 := seatAt_bound hg y
    have e : seatsL cs (y :: x) = seatAt cs y + seatsL cs x := rfl
    rw [e, List.length_cons]
    omega
theorem nil_sl (w : World) : Sl w (.slice none 0 0) 3 (cat ldc []) := ⟨none, 0, 0, rfl, rfl, fun i x h => by simp [cat] at h⟩
theorem topBoarded_fn (w : World) (hw : Ways w) (v : Value) (cs : List Cls) (hs : Sl w v 7 (cat clc cs)) (people : Int) : SX.Fn Tryz.prog 8 [v, I people] w (fun _ => False) fun q N => q = .bool true := by
  have dn : ∀ (g : Nat) (xs : List Value), det0 g xs = none := fun _ _ => rfl
  have hlv := fun (H : List HO) w' (hp : Hp ⟨w, fun _ => False⟩ H w') => lives_fn w' (hw.hp hp)
  have hs0 := hs
  obtain ⟨a, n, c, rfl⟩ := hs.shape
  have hn := hs.le clc_len (by omega)
  subst hn
  have hr := fun H => hs.rd0 H
  have hbo := fun (hl : cs.length ≤ 1000) (H : List HO) w' (hp : Hp ⟨w, fun _ => False⟩ H w') => board_fn w' _ cs people (Sl.hp (w0 := ⟨w, fun _ => False⟩) hs0 (fun _ _ => id) hp) hl
  have hri := fun (b : Cls) w' => rights_fn w' (.slice none 0 0) b [] (nil_sl w') (by simp)
  have hck := fun (b : Cls) w' => rcheck5_fn w' b
  unfold clv at hri hck
  by_cases h1 : cs.length > 10
  · have e1 : ((cs.length : Int) > 10) = True := eq_true (by omega)
    refine walk [] [] (det0_ok _ _) Tryz.func8 rfl Tryz.ntmps8 res8 (by kernel_rfl) no_facts ?_
    simp (config := { maxSteps := 4000000 }) only [↓sx0, ↓sx1, ↓sx2, ↓sx3, ↓sx4, ↓sx5, ↓sx6, sx0, sx1, sx2, sx3, sx4, sx5, sx6, tf8, ev3_hold, sxo, sxc, sxp, sxq, sxr, sxs, sxl, sxm, simprocAttr, e1, dn]
    refine CallOb.pureH (fun w' hp => hlv _ w' hp) ?_
    rintro q NN rfl
    refine ⟨?_⟩
    simp (config := { maxSteps := 4000000 }) only [↓sx0, ↓sx1, ↓sx2, ↓sx3, ↓sx4, ↓sx5, ↓sx6, sx0, sx1, sx2, sx3, sx4, sx5, sx6, tf8, ev3_hold, sxo, sxc, sxp, sxq, sxr, sxs, sxl, sxm, simprocAttr]
  have e1 : ((cs.length : Int) > 10) = False := eq_false (by omega)
  by_cases h2 : people < 0
  · have e2 : (people < 0) = True := eq_true h2
    refine walk [] [] (det0_ok _ _) Tryz.func8 rfl Tryz.ntmps8 res8 (by kernel_rfl) no_facts ?_
    simp (config := { maxSteps := 4000000 }) only [↓sx0, ↓sx1, ↓sx2, ↓sx3, ↓sx4, ↓sx5, ↓sx6, sx0, sx1, sx2, sx3, sx4, sx5, sx6, tf8, ev3_hold, sxo, sxc, sxp, sxq, sxr, sxs, sxl, sxm, simprocAttr, e1, e2, dn]
    refine CallOb.pureH (fun w' hp => hlv _ w' hp) ?_
    rintro q NN rfl
    refine ⟨?_⟩
    simp (config := { maxSteps := 4000000 }) only [↓sx0, ↓sx1, ↓sx2, ↓sx3, ↓sx4, ↓sx5, ↓sx6, sx0, sx1, sx2, sx3, sx4, sx5, sx6, tf8, ev3_hold, sxo, sxc, sxp, sxq, sxr, sxs, sxl, sxm, simprocAttr]
  have e2 : (people < 0) = False := eq_false h2
  refine walk [] [] (det0_ok _ _) Tryz.func8 rfl Tryz.ntmps8 res8 (by kernel_rfl) no_facts ?_
  simp (config := { maxSteps := 4000000 }) only [↓sx0, ↓sx1, ↓sx2, ↓sx3, ↓sx4, ↓sx5, ↓sx6, sx0, sx1, sx2, sx3, sx4, sx5, sx6, tf8, ev3_hold, sxo, sxc, sxp, sxq, sxr, sxs, sxl, sxm, simprocAttr, e1, e2]
  refine loop_constH [] (HImp.nil _ _) [(4, 5), (21, 33)] (fun i : Nat => [(5, I i)]) (fun i H1 => i ≤ cs.length ∧ ∀ b ∈ cs.take i, clsB b = true) (fun i => cs.length - i) 0 ?_ ⟨Nat.zero_le _, by simp⟩ ?_
  · simp (config := { maxSteps := 4000000 }) only [↓sx0, ↓sx1, ↓sx2, ↓sx3, ↓sx4, ↓sx5, ↓sx6, sx0, sx1, sx2, sx3, sx4, sx5, sx6, tf8, ev3_hold, sxo, sxc, sxp, sxq, sxr, sxs, sxl, sxm, simprocAttr]
    try simp
  rintro i H1 g1 ⟨hi, hall⟩
  by_cases hin : i = cs.length
  case neg =>
    have e7 : ((i : Int) < (cs.length : Int)) = True := eq_true (by omega)
    have e8 : wr (i + 1) = ((i + 1 : Nat) : Int) := (wrap_id (by omega)).trans (by omega)
    obtain ⟨b, hb⟩ : ∃ b, cs[i]? = some b := ⟨_, List.getElem?_eq_getElem (by omega)⟩
    have hpb : clc b = [I b.draught, I b.seas, I b.move, I b.idle, I b.reserve, I b.seats, I b.moment] := rfl
    cases hB : clsB b with
    | false =>
      have hck := hck b
      rw [hB] at hck
      refine ⟨?_⟩
      simp (config := { maxSteps := 4000000 }) only [↓sx0, ↓sx1, ↓sx2, ↓sx3, ↓sx4, ↓sx5, ↓sx6, sx0, sx1, sx2, sx3, sx4, sx5, sx6, tf8, ev3_hold, sxo, sxc, sxp, sxq, sxr, sxs, sxl, sxm, simprocAttr, e7]
      refine amid (at_n (hr _) clc_len (by omega) hb fun ad => ?_)
      simp (config := { maxSteps := 4000000 }) only [↓sx0, ↓sx1, ↓sx2, ↓sx3, ↓sx4, ↓sx5, ↓sx6, sx0, sx1, sx2, sx3, sx4, sx5, sx6, tf8, ev3_hold, sxo, sxc, sxp, sxq, sxr, sxs, sxl, sxm, simprocAttr, hpb, dn]
      refine CallOb.pureH (fun w' hp => hck w') ?_
      rintro q N2 rfl
      refine ⟨?_⟩
      simp (config := { maxSteps := 4000000 }) only [↓sx0, ↓sx1, ↓sx2, ↓sx3, ↓sx4, ↓sx5, ↓sx6, sx0, sx1, sx2, sx3, sx4, sx5, sx6, tf8, ev3_hold, sxo, sxc, sxp, sxq, sxr, sxs, sxl, sxm, simprocAttr, dn]
      refine CallOb.pureH (fun w' hp => hlv _ w' hp) ?_
      rintro q NN rfl
      refine ⟨?_⟩
      simp (config := { maxSteps := 4000000 }) only [↓sx0, ↓sx1, ↓sx2, ↓sx3, ↓sx4, ↓sx5, ↓sx6, sx0, sx1, sx2, sx3, sx4, sx5, sx6, tf8, ev3_hold, sxo, sxc, sxp, sxq, sxr, sxs, sxl, sxm, simprocAttr]
    | true =>
      have hck := hck b
      rw [hB] at hck
      refine ⟨?_⟩
      simp (config := { maxSteps := 4000000 }) only [↓sx0, ↓sx1, ↓sx2, ↓sx3, ↓sx4, ↓sx5, ↓sx6, sx0, sx1, sx2, sx3, sx4, sx5, sx6, tf8, ev3_hold, sxo, sxc, sxp, sxq, sxr, sxs, sxl, sxm, simprocAttr, e7]
      refine amid (at_n (hr _) clc_len (by omega) hb fun ad => ?_)
      simp (config := { maxSteps := 4000000 }) only [↓sx0, ↓sx1, ↓sx2, ↓sx3, ↓sx4, ↓sx5, ↓sx6, sx0, sx1, sx2, sx3, sx4, sx5, sx6, tf8, ev3_hold, sxo, sxc, sxp, sxq, sxr, sxs, sxl, sxm, simprocAttr, hpb, dn]
      refine CallOb.pureH (fun w' hp => hck w') ?_
      rintro q N2 rfl
      refine ⟨?_⟩
      simp (config := { maxSteps := 4000000 }) only [↓sx0, ↓sx1, ↓sx2, ↓sx3, ↓sx4, ↓sx5, ↓sx6, sx0, sx1, sx2, sx3, sx4, sx5, sx6, tf8, ev3_hold, sxo, sxc, sxp, sxq, sxr, sxs, sxl, sxm, simprocAttr, e8]
      refine ⟨i + 1, _, rfl, HImp.refl _ _, ⟨by omega, fun b' hb' => ?_⟩, by omega⟩
      rw [List.take_succ, hb] at hb'
      rcases List.mem_append.1 hb' with h | h
      · exact hall _ h
      · simp at h
        subst h
        exact hB
  have e7 : ((i : Int) < (cs.length : Int)) = False := eq_false (by omega)
  rw [List.take_of_length_le (by omega)] at hall
  have hE : boardE cs people = 0 := by
    unfold boardE
    rw [if_neg (by omega), if_neg, if_neg (by omega)]
    intro h
    obtain ⟨b, hb, hx⟩ := List.any_eq_true.1 h
    unfold badC at hx
    rw [hall b hb] at hx
    cases hx
  have hbo := hbo (by omega)
  unfold BoardP at hbo
  refine ⟨?_⟩
  simp (config := { maxSteps := 4000000 }) only [↓sx0, ↓sx1, ↓sx2, ↓sx3, ↓sx4, ↓sx5, ↓sx6, sx0, sx1, sx2, sx3, sx4, sx5, sx6, tf8, ev3_hold, sxo, sxc, sxp, sxq, sxr, sxs, sxl, sxm, simprocAttr, e7, dn]
  refine CallOb.pureH (fun w' hp => hbo _ w' hp) ?_
  rintro q N2 (⟨h0, _⟩ | ⟨_, hF⟩)
  · exact absurd hE h0
  rcases hF with ⟨_, rfl⟩ | ⟨x, vx, hx, rfl, hG⟩
  · refine ⟨?_⟩
    simp (config := { maxSteps := 4000000 }) only [↓sx0, ↓sx1, ↓sx2, ↓sx3, ↓sx4, ↓sx5, ↓sx6, sx0, sx1, sx2, sx3, sx4, sx5, sx6, tf8, ev3_hold, sxo, sxc, sxp, sxq, sxr, sxs, sxl, sxm, simprocAttr, dn]
    refine CallOb.pureH (fun w' hp => hlv _ w' hp) ?_
    rintro q NN rfl
    refine ⟨?_⟩
    simp (config := { maxSteps := 4000000 }) only [↓sx0, ↓sx1, ↓sx2, ↓sx3, ↓sx4, ↓sx5, ↓sx6, sx0, sx1, sx2, sx3, sx4, sx5, sx6, tf8, ev3_hold, sxo, sxc, sxp, sxq, sxr, sxs, sxl, sxm, simprocAttr]
  obtain ⟨hsub, hge, hneed⟩ := board_need hx
  have hxl := sub_len hsub
  have hbd := seats_bd hall
  have hgx : ∃ a c, vx = .slice a x.length c := by
    obtain ⟨a, c, h, _⟩ := hG
    exact ⟨a, c, h⟩
  obtain ⟨ax, cx, rfl⟩ := hgx
  obtain ⟨L, hL⟩ : ∃ L : Nat → Int, ∀ i, people - seatsL cs (x.take i) = L i := ⟨_, fun _ => rfl⟩
  have hL0 : L 0 = people := by rw [← hL]; simp [seatsL, sumB]
  have z0 : ((0 : Int) = 0) = True := eq_true rfl
  refine ⟨?_⟩
  simp (config := { maxSteps := 4000000 }) only [↓sx0, ↓sx1, ↓sx2, ↓sx3, ↓sx4, ↓sx5, ↓sx6, sx0, sx1, sx2, sx3, sx4, sx5, sx6, tf8, ev3_hold, sxo, sxc, sxp, sxq, sxr, sxs, sxl, sxm, simprocAttr]
  refine loop_constH _ (HImp.refl _ _) [(4, 4), (8, 12), (48, 103)] (fun i : Nat => [(8, I (L i)), (9, I i)]) (fun i H1 => i ≤ x.length ∧ ∀ h ∈ N2, h ∈ H1) (fun i => x.length - i) 0 ?_ ⟨Nat.zero_le _, fun h hh => by simp [hh]⟩ ?_
  · simp (config := { maxSteps := 4000000 }) only [↓sx0, ↓sx1, ↓sx2, ↓sx3, ↓sx4, ↓sx5, ↓sx6, sx0, sx1, sx2, sx3, sx4, sx5, sx6, tf8, ev3_hold, sxo, sxc, sxp, sxq, sxr, sxs, sxl, sxm, simprocAttr, hL0]
    try simp
  rintro j H3 g3 ⟨hj, hN⟩
  by_cases hjn : j = x.length
  · have f7 : ((j : Int) < (x.length : Int)) = False := eq_false (by omega)
    have f1 : (L j ≤ 0) = True := eq_true (by
      rw [← hL, List.take_of_length_le (by omega)]
      omega)
    refine ⟨?_⟩
    simp (config := { maxSteps := 4000000 }) only [↓sx0, ↓sx1, ↓sx2, ↓sx3, ↓sx4, ↓sx5, ↓sx6, sx0, sx1, sx2, sx3, sx4, sx5, sx6, tf8, ev3_hold, sxo, sxc, sxp, sxq, sxr, sxs, sxl, sxm, simprocAttr, f7, f1, dn]
    refine CallOb.pureH (fun w' hp => hlv _ w' hp) ?_
    rintro q NN rfl
    refine ⟨?_⟩
    simp (config := { maxSteps := 4000000 }) only [↓sx0, ↓sx1, ↓sx2, ↓sx3, ↓sx4, ↓sx5, ↓sx6, sx0, sx1, sx2, sx3, sx4, sx5, sx6, tf8, ev3_hold, sxo, sxc, sxp, sxq, sxr, sxs, sxl, sxm, simprocAttr]
  have f7 : ((j : Int) < (x.length : Int)) = True := eq_true (by omega)
  have f8 : wr (j + 1) = ((j + 1 : Nat) : Int) := (wrap_id (by omega)).trans (by omega)
  obtain ⟨y, hy⟩ : ∃ y, x[j]? = some y := ⟨_, List.getElem?_eq_getElem (by omega)⟩
  have hym := hsub.subset (List.mem_of_getElem? hy)
  have hyr : 0 ≤ y ∧ y < cs.length := idx_mem.1 hym
  have f1 : (L j ≤ 0) = False := eq_false (by
    rw [← hL]
    have := hneed j (by omega)
    omega)
  have f2 : (y < 0) = False := eq_false (by omega)
  have f3 : (y ≥ (cs.length : Int)) = False := eq_false (by omega)
  obtain ⟨b, hb⟩ : ∃ b, cs[y.toNat]? = some b := ⟨_, List.getElem?_eq_getElem (by omega)⟩
  have hcb := hall b (List.mem_of_getElem? hb)
  have hcb2 := (clsB_iff b).1 hcb
  have hpb : clc b = [I b.draught, I b.seas, I b.move, I b.idle, I b.reserve, I b.seats, I b.moment] := rfl
  have hri := hri b
  have hrv : rightsV b [] = .tuple #[.bool true, .bool true, I 0] := by
    unfold rightsV loadE
    rw [hcb]
    simp [sumB, hcb2]
  rw [hrv] at hri
  have hsa : seatAt cs y = b.seats := by
    unfold seatAt
    rw [hb]
  have f4 : wr (L j - b.seats) = L (j + 1) := by
    have h1 := seats_take (cs := cs) hy
    rw [hsa] at h1
    have h2 := hbd x
    have h3 := hbd (x.take j)
    have h4 : (x.take j).length ≤ 10 := by rw [List.length_take]; omega
    rw [← hL, ← hL]
    exact (wrap_id (by omega)).trans (by omega)
  have hrG := fun (H : List HO) (hm : ∀ h ∈ N2, h ∈ H) => hG.rdv (w0 := ⟨w, fun _ => False⟩) (H := H) hm
  refine ⟨?_⟩
  simp (config := { maxSteps := 4000000 }) only [↓sx0, ↓sx1, ↓sx2, ↓sx3, ↓sx4, ↓sx5, ↓sx6, sx0, sx1, sx2, sx3, sx4, sx5, sx6, tf8, ev3_hold, sxo, sxc, sxp, sxq, sxr, sxs, sxl, sxm, simprocAttr, f7]
  refine amid (at_1 (hrG _ (fun h hh => by simp [hN h hh])) i1_len hy rfl fun ad1 => ?_)
  simp (config := { maxSteps := 4000000 }) only [↓sx0, ↓sx1, ↓sx2, ↓sx3, ↓sx4, ↓sx5, ↓sx6, sx0, sx1, sx2, sx3, sx4, sx5, sx6, tf8, ev3_hold, sxo, sxc, sxp, sxq, sxr, sxs, sxl, sxm, simprocAttr, f2]
  refine at_1 (hrG _ (fun h hh => by simp [hN h hh])) i1_len hy rfl fun ad2 => ?_
  simp (config := { maxSteps := 4000000 }) only [↓sx0, ↓sx1, ↓sx2, ↓sx3, ↓sx4, ↓sx5, ↓sx6, sx0, sx1, sx2, sx3, sx4, sx5, sx6, tf8, ev3_hold, sxo, sxc, sxp, sxq, sxr, sxs, sxl, sxm, simprocAttr, f3, f1]
  refine at_1 (hrG _ (fun h hh => by simp [hN h hh])) i1_len hy rfl fun ad3 => ?_
  simp (config := { maxSteps := 4000000 }) only [↓sx0, ↓sx1, ↓sx2, ↓sx3, ↓sx4, ↓sx5, ↓sx6, sx0, sx1, sx2, sx3, sx4, sx5, sx6, tf8, ev3_hold, sxo, sxc, sxp, sxq, sxr, sxs, sxl, sxm, simprocAttr]
  refine ⟨by omega, by omega, (at_n (hr _) clc_len (by omega) hb fun ad4 => ?_).2.2⟩
  simp (config := { maxSteps := 4000000 }) only [↓sx0, ↓sx1, ↓sx2, ↓sx3, ↓sx4, ↓sx5, ↓sx6, sx0, sx1, sx2, sx3, sx4, sx5, sx6, tf8, ev3_hold, sxo, sxc, sxp, sxq, sxr, sxs, sxl, sxm, simprocAttr, hpb, dn]
  refine CallOb.pureH (fun w' hp => hri w') ?_
  rintro q N3 rfl
  refine ⟨?_⟩
  simp (config := { maxSteps := 4000000 }) only [↓sx0, ↓sx1, ↓sx2, ↓sx3, ↓sx4, ↓sx5, ↓sx6, sx0, sx1, sx2, sx3, sx4, sx5, sx6, tf8, ev3_hold, sxo, sxc, sxp, sxq, sxr, sxs, sxl, sxm, simprocAttr, z0]
  refine at_1 (hrG _ (fun h hh => by simp [hN h hh])) i1_len hy rfl fun ad5 => ?_
  simp (config := { maxSteps := 4000000 }) only [↓sx0, ↓sx1, ↓sx2, ↓sx3, ↓sx4, ↓sx5, ↓sx6, sx0, sx1, sx2, sx3, sx4, sx5, sx6, tf8, ev3_hold, sxo, sxc, sxp, sxq, sxr, sxs, sxl, sxm, simprocAttr]
  refine ⟨by omega, by omega, (at_f (hr _) clc_len hb (o := 5) (x := I b.seats) rfl fun ad6 => ?_).2.2⟩
  simp (config := { maxSteps := 4000000 }) only [↓sx0, ↓sx1, ↓sx2, ↓sx3, ↓sx4, ↓sx5, ↓sx6, sx0, sx1, sx2, sx3, sx4, sx5, sx6, tf8, ev3_hold, sxo, sxc, sxp, sxq, sxr, sxs, sxl, sxm, simprocAttr, f4, f8]
  exact ⟨j + 1, _, ⟨rfl, rfl⟩, HImp.refl _ _, ⟨by omega, fun h hh => by simp [hN h hh]⟩, by omega⟩
end Go.Proofs.YtpmodggfogahhaaGreatDoor
