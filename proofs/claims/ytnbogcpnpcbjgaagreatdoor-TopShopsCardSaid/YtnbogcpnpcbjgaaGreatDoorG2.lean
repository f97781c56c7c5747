/- Parts of a proof: the symbolic walk and what it shows of single functions. -/
import Derived.Test.YtnbogcpnpcbjgaaGreatDoorG1
import Derived.Test.YtnbogcpnpcbjgaaGreatDoorX5
set_option linter.all false
namespace Go.Proofs.YtnbogcpnpcbjgaaGreatDoor
open Go.RowKit Go.SX
set_option maxRecDepth 10000
set_option maxHeartbeats 0
set_option linter.unusedSimpArgs false
set_option linter.unusedVariables false
def amL (gs : List (Int × Int × Int)) (k : Nat) : List Int := (gs.take k).map fun x => x.2.2
theorem amL_len {gs : List (Int × Int × Int)} {k : Nat} (h : k ≤ gs.length) : (amL gs k).length = k := by
  unfold amL
  rw [List.length_map, List.length_take]
  omega
theorem amL_succ {gs : List (Int × Int × Int)} {k : Nat} {x : Int × Int × Int} (h : gs[k]? = some x) : amL gs (k + 1) = amL gs k ++ [x.2.2] := by
  unfold amL
  rw [List.take_succ, h, List.map_append]
  rfl
def fitB (g x : Int × Int × Int) : Bool := bitI g.1 x.1.toNat && decide (g.2.1 ≤ x.2.1)
def gsetL (gs : List (Int × Int × Int)) (x : Int × Int × Int) : Nat → Int
  | 0 => 0
  | k + 1 => if fitB (gs.getD k (0, 0, 0)) x then bitS .or .i64 (gsetL gs x k) (wr (1 * 2 ^ (min k IntKind.i64.bits))) else gsetL gs x k
def usL (gs bs : List (Int × Int × Int)) (k : Nat) : List Int := (bs.take k).map fun x => gsetL gs x gs.length
theorem usL_len {gs bs : List (Int × Int × Int)} {k : Nat} (h : k ≤ bs.length) : (usL gs bs k).length = k := by
  unfold usL
  rw [List.length_map, List.length_take]
  omega
theorem usL_succ {gs bs : List (Int × Int × Int)} {k : Nat} {x : Int × Int × Int} (h : bs[k]? = some x) : usL gs bs (k + 1) = usL gs bs k ++ [gsetL gs x gs.length] := by
  unfold usL
  rw [List.take_succ, h, List.map_append]
  rfl
def GopP (gs bs : List (Int × Int × Int)) (q : Value) (N : List HO) : Prop := (bookB gs bs = false ∧ q = .tuple #[.agg #[.slice none 0 0, .slice none 0 0, .slice none 0 0], I 110]) ∨
  (bookB gs bs = true ∧ ∃ a1 c1 a2 c2 a3 c3, q = .tuple #[.agg #[.slice a1 gs.length c1, .slice a2 bs.length c2, .slice a3 bs.length c3], I 0] ∧ (a1 = none → gs = []) ∧ (a2 = none → bs = []) ∧ (a3 = none → bs = []) ∧
    N = [HO.row (.slice a3 bs.length c3) 3 1 (ints (usL gs bs bs.length)), HO.row (.slice a2 bs.length c2) 3 1 (ints (amL bs bs.length)), HO.row (.slice a1 gs.length c1) 3 1 (ints (amL gs gs.length))])
theorem gopen_fn (w : World) (vG vB : Value) (gs bs : List (Int × Int × Int)) (hG : Sl w vG 3 (cat ldc gs)) (hB : Sl w vB 3 (cat ldc bs)) : SX.Fn Tryz.prog 49 [.agg #[vG, vB]] w (fun _ => False) (GopP gs bs) := by
  have dn : ∀ (g : Nat) (xs : List Value), det0 g xs = none := fun _ _ => rfl
  have hck := fun (H : List HO) w' (hp : Hp ⟨w, fun _ => False⟩ H w') => gcheck_fn w' vG vB gs bs (Sl.hp (w0 := ⟨w, fun _ => False⟩) hG (fun _ _ => id) hp) (Sl.hp (w0 := ⟨w, fun _ => False⟩) hB (fun _ _ => id) hp)
  have hrG := fun H => hG.rd0 H
  have hrB := fun H => hB.rd0 H
  obtain ⟨aG, nG, cG, rfl⟩ := hG.shape
  obtain ⟨aB, nB, cB, rfl⟩ := hB.shape
  have hnG := hG.le ldc_len (by omega)
  have hnB := hB.le ldc_len (by omega)
  subst hnG hnB
  unfold GopP
  cases hok : bookB gs bs with
  | false =>
    rw [hok] at hck
    refine walk [] [] (det0_ok _ _) Tryz.func49 rfl Tryz.ntmps49 res49 (by kernel_rfl) no_facts ?_
    simp (config := { maxSteps := 4000000 }) only [↓sx0, ↓sx1, ↓sx2, ↓sx3, ↓sx4, ↓sx5, ↓sx6, sx0, sx1, sx2, sx3, sx4, sx5, sx6, tf49, ev3_hold, sxo, sxc, sxp, sxq, sxr, sxs, sxl, sxm, simprocAttr, dn]
    refine CallOb.pureH (fun w' hp => hck _ w' hp) ?_
    rintro q N rfl
    refine ⟨?_⟩
    simp (config := { maxSteps := 4000000 }) only [↓sx0, ↓sx1, ↓sx2, ↓sx3, ↓sx4, ↓sx5, ↓sx6, sx0, sx1, sx2, sx3, sx4, sx5, sx6, tf49, ev3_hold, sxo, sxc, sxp, sxq, sxr, sxs, sxl, sxm, simprocAttr]
    first | exact .inl trivial | exact .inl ⟨rfl, rfl⟩
  | true =>
  rw [hok] at hck
  have hlen : gs.length ≤ 10 ∧ bs.length ≤ 8 := by
    unfold bookB at hok
    rw [Bool.and_eq_true, Bool.and_eq_true, decide_eq_true_eq, decide_eq_true_eq] at hok
    exact ⟨hok.1, hok.2.1⟩
  refine walk [] [] (det0_ok _ _) Tryz.func49 rfl Tryz.ntmps49 res49 (by kernel_rfl) no_facts ?_
  simp (config := { maxSteps := 4000000 }) only [↓sx0, ↓sx1, ↓sx2, ↓sx3, ↓sx4, ↓sx5, ↓sx6, sx0, sx1, sx2, sx3, sx4, sx5, sx6, tf49, ev3_hold, sxo, sxc, sxp, sxq, sxr, sxs, sxl, sxm, simprocAttr, dn]
  refine CallOb.pureH (fun w' hp => hck _ w' hp) ?_
  rintro q N rfl
  refine ⟨?_⟩
  simp (config := { maxSteps := 4000000 }) only [↓sx0, ↓sx1, ↓sx2, ↓sx3, ↓sx4, ↓sx5, ↓sx6, sx0, sx1, sx2, sx3, sx4, sx5, sx6, tf49, ev3_hold, sxo, sxc, sxp, sxq, sxr, sxs, sxl, sxm, simprocAttr]
  refine loop_boxH [HO.row (.slice none 0 0) 3 1 (ints (amL gs 0))] ((HImp.nil _ _).trans (HImp.nilRow _ _ _ _)) [(7, 7), (22, 33)] (fun q : Nat × Option Addr × Nat => [(22, I q.1)])
    (fun q => [(62, [.slice aG gs.length cG, .slice aB bs.length cB]), (122, [.slice none 0 0, .slice none 0 0, .slice none 0 0]), (122, [.slice q.2.1 q.1 q.2.2, .slice none 0 0, .slice none 0 0])])
    (fun q H1 => q.1 ≤ gs.length ∧ (q.2.1 = none → q.1 = 0) ∧ H1 = [HO.row (.slice q.2.1 q.1 q.2.2) 3 1 (ints (amL gs q.1))]) (fun q => gs.length - q.1) (0, none, 0) ?_ ?_ (fun _ => rfl) ⟨Nat.zero_le _, fun _ => rfl, rfl⟩ ?_
  · simp (config := { maxSteps := 4000000 }) only [↓sx0, ↓sx1, ↓sx2, ↓sx3, ↓sx4, ↓sx5, ↓sx6, sx0, sx1, sx2, sx3, sx4, sx5, sx6, tf49, ev3_hold, sxo, sxc, sxp, sxq, sxr, sxs, sxl, sxm, simprocAttr]
    try simp
  · rfl
  rintro ⟨k, a1, c1⟩ H1 g1 hinv
  simp only [] at hinv
  obtain ⟨hk, hnil, rfl⟩ := hinv
  by_cases hkn : k = gs.length
  case neg =>
    have e7 : ((k : Int) < (gs.length : Int)) = True := eq_true (by omega)
    have e8 : wr (k + 1) = ((k + 1 : Nat) : Int) := (wrap_id (by omega)).trans (by omega)
    obtain ⟨x, hx⟩ : ∃ x, gs[k]? = some x := ⟨_, List.getElem?_eq_getElem (by omega)⟩
    have hsu := amL_succ hx
    have hal := amL_len hk
    have hpx : ldc x = [I x.1, I x.2.1, I x.2.2] := rfl
    refine ⟨?_⟩
    simp (config := { maxSteps := 4000000 }) only [↓sx0, ↓sx1, ↓sx2, ↓sx3, ↓sx4, ↓sx5, ↓sx6, sx0, sx1, sx2, sx3, sx4, sx5, sx6, tf49, ev3_hold, sxo, sxc, sxp, sxq, sxr, sxs, sxl, sxm, simprocAttr, e7]
    refine amid (at_n (hrG _) ldc_len (by omega) hx fun ad => ?_)
    simp (config := { maxSteps := 4000000 }) only [↓sx0, ↓sx1, ↓sx2, ↓sx3, ↓sx4, ↓sx5, ↓sx6, sx0, sx1, sx2, sx3, sx4, sx5, sx6, tf49, ev3_hold, sxo, sxc, sxp, sxq, sxr, sxs, sxl, sxm, simprocAttr, hpx]
    intro bx
    refine app_one (l := amL gs k) x.2.2 (HImp.refl _ _) i1_len i1_one (by rw [hal]; omega) fun ad2 c2 => ?_
    simp (config := { maxSteps := 4000000 }) only [↓sx0, ↓sx1, ↓sx2, ↓sx3, ↓sx4, ↓sx5, ↓sx6, sx0, sx1, sx2, sx3, sx4, sx5, sx6, tf49, ev3_hold, sxo, sxc, sxp, sxq, sxr, sxs, sxl, sxm, simprocAttr, hal, hsu.symm, e8]
    exact ⟨(k + 1, some ad2, c2), _, rfl, rfl, HImp.refl _ _, ⟨by simp only []; omega, (fun h => by cases h), rfl⟩, by simp only []; omega⟩
  have e7 : ((k : Int) < (gs.length : Int)) = False := eq_false (by omega)
  have hgood : ∀ x ∈ bs, 0 ≤ x.1 := fun x hx => by
    unfold bookB at hok
    simp only [Bool.and_eq_true, Bool.not_eq_true'] at hok
    have h1 := List.any_eq_false.1 hok.2.2.2 x hx
    unfold bad3 at h1
    simp at h1
    omega
  refine ⟨?_⟩
  simp (config := { maxSteps := 4000000 }) only [↓sx0, ↓sx1, ↓sx2, ↓sx3, ↓sx4, ↓sx5, ↓sx6, sx0, sx1, sx2, sx3, sx4, sx5, sx6, tf49, ev3_hold, sxo, sxc, sxp, sxq, sxr, sxs, sxl, sxm, simprocAttr, e7]
  refine loop_boxH (HO.row (.slice none 0 0) 3 1 (ints (usL gs bs 0)) :: HO.row (.slice none 0 0) 3 1 (ints (amL bs 0)) :: [HO.row (.slice a1 k c1) 3 1 (ints (amL gs k))]) ((HImp.nilRow _ _ _ _).trans (HImp.nilRow _ _ _ _)) [(9, 12), (37, 81)] (fun q : Nat × (Option Addr × Nat) × (Option Addr × Nat) => [(37, I q.1)])
    (fun q => [(62, [.slice aG gs.length cG, .slice aB bs.length cB]), (122, [.slice none 0 0, .slice none 0 0, .slice none 0 0]), (122, [.slice a1 k c1, .slice q.2.1.1 q.1 q.2.1.2, .slice q.2.2.1 q.1 q.2.2.2])])
    (fun q H1 => q.1 ≤ bs.length ∧ (q.2.1.1 = none → q.1 = 0) ∧ (q.2.2.1 = none → q.1 = 0) ∧ H1 = [HO.row (.slice q.2.2.1 q.1 q.2.2.2) 3 1 (ints (usL gs bs q.1)), HO.row (.slice q.2.1.1 q.1 q.2.1.2) 3 1 (ints (amL bs q.1)), HO.row (.slice a1 k c1) 3 1 (ints (amL gs k))]) (fun q => bs.length - q.1) (0, (none, 0), (none, 0)) ?_ ?_ (fun _ => rfl) ⟨Nat.zero_le _, fun _ => rfl, fun _ => rfl, rfl⟩ ?_
  · simp (config := { maxSteps := 4000000 }) only [↓sx0, ↓sx1, ↓sx2, ↓sx3, ↓sx4, ↓sx5, ↓sx6, sx0, sx1, sx2, sx3, sx4, sx5, sx6, tf49, ev3_hold, sxo, sxc, sxp, sxq, sxr, sxs, sxl, sxm, simprocAttr]
    try simp
  · rfl
  rintro ⟨j, ⟨a2, c2⟩, ⟨a3, c3⟩⟩ H1 g2 hinv
  simp only [] at hinv
  obtain ⟨hj, hn2, hn3, rfl⟩ := hinv
  by_cases hjn : j = bs.length
  · have f7 : ((j : Int) < (bs.length : Int)) = False := eq_false (by omega)
    refine ⟨?_⟩
    simp (config := { maxSteps := 4000000 }) only [↓sx0, ↓sx1, ↓sx2, ↓sx3, ↓sx4, ↓sx5, ↓sx6, sx0, sx1, sx2, sx3, sx4, sx5, sx6, tf49, ev3_hold, sxo, sxc, sxp, sxq, sxr, sxs, sxl, sxm, simprocAttr, f7]
    subst hjn hkn
    exact .inr ⟨a1, c1, a2, c2, a3, c3, rfl, fun h => List.eq_nil_of_length_eq_zero (hnil h), fun h => List.eq_nil_of_length_eq_zero (hn2 h), fun h => List.eq_nil_of_length_eq_zero (hn3 h), rfl⟩
  have f7 : ((j : Int) < (bs.length : Int)) = True := eq_true (by omega)
  have f8 : wr (j + 1) = ((j + 1 : Nat) : Int) := (wrap_id (by omega)).trans (by omega)
  obtain ⟨x, hx⟩ : ∃ x, bs[j]? = some x := ⟨_, List.getElem?_eq_getElem (by omega)⟩
  have hsu := amL_succ hx
  have hal := amL_len hj
  have hsu2 := usL_succ (gs := gs) hx
  have hal2 := usL_len (gs := gs) hj
  have hpx : ldc x = [I x.1, I x.2.1, I x.2.2] := rfl
  have hx0 := hgood x (List.mem_of_getElem? hx)
  obtain ⟨T, hT⟩ : ∃ T : Nat → Int, ∀ i, gsetL gs x i = T i := ⟨_, fun _ => rfl⟩
  have hT0 : T 0 = 0 := by rw [← hT]; rfl
  have hTs : ∀ i, T (i + 1) = if fitB (gs.getD i (0, 0, 0)) x then bitS .or .i64 (T i) (wr (1 * 2 ^ (min i IntKind.i64.bits))) else T i := fun i => by rw [← hT, ← hT]; rfl
  rw [hT] at hsu2
  refine ⟨?_⟩
  simp (config := { maxSteps := 4000000 }) only [↓sx0, ↓sx1, ↓sx2, ↓sx3, ↓sx4, ↓sx5, ↓sx6, sx0, sx1, sx2, sx3, sx4, sx5, sx6, tf49, ev3_hold, sxo, sxc, sxp, sxq, sxr, sxs, sxl, sxm, simprocAttr, f7]
  refine amid (at_n (hrB _) ldc_len (by omega) hx fun ad => ?_)
  simp (config := { maxSteps := 4000000 }) only [↓sx0, ↓sx1, ↓sx2, ↓sx3, ↓sx4, ↓sx5, ↓sx6, sx0, sx1, sx2, sx3, sx4, sx5, sx6, tf49, ev3_hold, sxo, sxc, sxp, sxq, sxr, sxs, sxl, sxm, simprocAttr, hpx]
  intro bx
  refine app_one (l := amL bs j) x.2.2 (HImp.swap _ _ _ _) i1_len i1_one (by rw [hal]; omega) fun ad2 cc2 => ?_
  simp (config := { maxSteps := 4000000 }) only [↓sx0, ↓sx1, ↓sx2, ↓sx3, ↓sx4, ↓sx5, ↓sx6, sx0, sx1, sx2, sx3, sx4, sx5, sx6, tf49, ev3_hold, sxo, sxc, sxp, sxq, sxr, sxs, sxl, sxm, simprocAttr, hal, hsu.symm]
  refine loop_constH _ (HImp.refl _ _) [(10, 12), (51, 74)] (fun i : Nat => [(10, I (T i)), (51, I i)]) (fun i H5 => i ≤ gs.length ∧ H5 = [HO.row (.slice (some ad2) (j + 1) cc2) 3 1 (ints (amL bs (j + 1))), HO.row (.slice a3 j c3) 3 1 (ints (usL gs bs j)), HO.row (.slice a1 k c1) 3 1 (ints (amL gs k))]) (fun i => gs.length - i) 0 ?_ ⟨Nat.zero_le _, rfl⟩ ?_
  · simp (config := { maxSteps := 4000000 }) only [↓sx0, ↓sx1, ↓sx2, ↓sx3, ↓sx4, ↓sx5, ↓sx6, sx0, sx1, sx2, sx3, sx4, sx5, sx6, tf49, ev3_hold, sxo, sxc, sxp, sxq, sxr, sxs, sxl, sxm, simprocAttr, hT0]
    try simp
  rintro i H5 g5 ⟨hi, rfl⟩
  by_cases hin : i = gs.length
  · have q7 : ((i : Int) < (gs.length : Int)) = False := eq_false (by omega)
    have hTi : T i = T gs.length := by rw [hin]
    refine ⟨?_⟩
    simp (config := { maxSteps := 4000000 }) only [↓sx0, ↓sx1, ↓sx2, ↓sx3, ↓sx4, ↓sx5, ↓sx6, sx0, sx1, sx2, sx3, sx4, sx5, sx6, tf49, ev3_hold, sxo, sxc, sxp, sxq, sxr, sxs, sxl, sxm, simprocAttr, q7, hTi]
    intro bu
    refine app_one (l := usL gs bs j) (T gs.length) (HImp.swap _ _ _ _) i1_len i1_one (by rw [hal2]; omega) fun ad3 cc3 => ?_
    simp (config := { maxSteps := 4000000 }) only [↓sx0, ↓sx1, ↓sx2, ↓sx3, ↓sx4, ↓sx5, ↓sx6, sx0, sx1, sx2, sx3, sx4, sx5, sx6, tf49, ev3_hold, sxo, sxc, sxp, sxq, sxr, sxs, sxl, sxm, simprocAttr, hal2, hsu2.symm, f8]
    exact ⟨(j + 1, (some ad2, cc2), (some ad3, cc3)), _, rfl, rfl, HImp.refl _ _, ⟨by simp only []; omega, (fun h => by cases h), (fun h => by cases h), rfl⟩, by simp only []; omega⟩
  have q7 : ((i : Int) < (gs.length : Int)) = True := eq_true (by omega)
  have q8 : wr (i + 1) = ((i + 1 : Nat) : Int) := (wrap_id (by omega)).trans (by omega)
  obtain ⟨g, hg⟩ : ∃ g, gs[i]? = some g := ⟨_, List.getElem?_eq_getElem (by omega)⟩
  have hgd : gs.getD i (0, 0, 0) = g := by rw [List.getD_eq_getElem?_getD, hg]; rfl
  have hpg : ldc g = [I g.1, I g.2.1, I g.2.2] := rfl
  have hs := hTs i
  rw [hgd] at hs
  unfold fitB bitI at hs
  by_cases r1 : bitS .and .i64 (g.1.fdiv (2 ^ (min x.1.toNat IntKind.i64.bits))) 1 = 1
  case neg =>
    have p1 : (bitS .and .i64 (g.1.fdiv (2 ^ (min x.1.toNat IntKind.i64.bits))) 1 = 1) = False := eq_false r1
    rw [if_neg (by rw [decide_eq_false r1]; simp)] at hs
    refine ⟨?_⟩
    simp (config := { maxSteps := 4000000 }) only [↓sx0, ↓sx1, ↓sx2, ↓sx3, ↓sx4, ↓sx5, ↓sx6, sx0, sx1, sx2, sx3, sx4, sx5, sx6, tf49, ev3_hold, sxo, sxc, sxp, sxq, sxr, sxs, sxl, sxm, simprocAttr, q7]
    refine amid (at_n (hrG _) ldc_len (by omega) hg fun ad => ?_)
    simp (config := { maxSteps := 4000000 }) only [↓sx0, ↓sx1, ↓sx2, ↓sx3, ↓sx4, ↓sx5, ↓sx6, sx0, sx1, sx2, sx3, sx4, sx5, sx6, tf49, ev3_hold, sxo, sxc, sxp, sxq, sxr, sxs, sxl, sxm, simprocAttr, hpg, p1, q8]
    exact ⟨by omega, i + 1, _, by rw [hs]; exact ⟨rfl, rfl⟩, HImp.refl _ _, ⟨by omega, rfl⟩, by omega⟩
  have p1 : (bitS .and .i64 (g.1.fdiv (2 ^ (min x.1.toNat IntKind.i64.bits))) 1 = 1) = True := eq_true r1
  by_cases r2 : g.2.1 ≤ x.2.1
  case neg =>
    have p2 : (g.2.1 ≤ x.2.1) = False := eq_false r2
    rw [if_neg (by rw [decide_eq_false r2]; simp)] at hs
    refine ⟨?_⟩
    simp (config := { maxSteps := 4000000 }) only [↓sx0, ↓sx1, ↓sx2, ↓sx3, ↓sx4, ↓sx5, ↓sx6, sx0, sx1, sx2, sx3, sx4, sx5, sx6, tf49, ev3_hold, sxo, sxc, sxp, sxq, sxr, sxs, sxl, sxm, simprocAttr, q7]
    refine amid (at_n (hrG _) ldc_len (by omega) hg fun ad => ?_)
    simp (config := { maxSteps := 4000000 }) only [↓sx0, ↓sx1, ↓sx2, ↓sx3, ↓sx4, ↓sx5, ↓sx6, sx0, sx1, sx2, sx3, sx4, sx5, sx6, tf49, ev3_hold, sxo, sxc, sxp, sxq, sxr, sxs, sxl, sxm, simprocAttr, hpg, p1, p2, q8]
    exact ⟨by omega, i + 1, _, by rw [hs]; exact ⟨rfl, rfl⟩, HImp.refl _ _, ⟨by omega, rfl⟩, by omega⟩
  have p2 : (g.2.1 ≤ x.2.1) = True := eq_true r2
  rw [if_pos (by rw [decide_eq_true r1, decide_eq_true r2]; rfl)] at hs
  refine ⟨?_⟩
  simp (config := { maxSteps := 4000000 }) only [↓sx0, ↓sx1, ↓sx2, ↓sx3, ↓sx4, ↓sx5, ↓sx6, sx0, sx1, sx2, sx3, sx4, sx5, sx6, tf49, ev3_hold, sxo, sxc, sxp, sxq, sxr, sxs, sxl, sxm, simprocAttr, q7]
  refine amid (at_n (hrG _) ldc_len (by omega) hg fun ad => ?_)
  simp (config := { maxSteps := 4000000 }) only [↓sx0, ↓sx1, ↓sx2, ↓sx3, ↓sx4, ↓sx5, ↓sx6, sx0, sx1, sx2, sx3, sx4, sx5, sx6, tf49, ev3_hold, sxo, sxc, sxp, sxq, sxr, sxs, sxl, sxm, simprocAttr, hpg, p1, p2, q8]
  exact ⟨by omega, by omega, i + 1, _, by rw [hs]; exact ⟨rfl, rfl⟩, HImp.refl _ _, ⟨by omega, rfl⟩, by omega⟩
end Go.Proofs.YtnbogcpnpcbjgaaGreatDoor

namespace Go.Proofs.YtnbogcpnpcbjgaaGreatDoor
open Go.RowKit Go.SX
set_option maxRecDepth 10000
set_option maxHeartbeats 0
set_option linter.unusedSimpArgs false
set_option linter.unusedVariables false
def paidP (gs bs : List (Int × Int × Int)) : Prop := ∀ S : Nat, S < 2 ^ bs.length → 0 ≤ spM (amL gs gs.length) (amL bs bs.length) (usL gs bs bs.length) S
open Classical in
noncomputable def payE (gs bs : List (Int × Int × Int)) : Int := if bookB gs bs then (if paidP gs bs then 0 else 3) else 110
def slC (p : Option Addr × Nat × Nat) : List Value := [.slice p.1 p.2.1 p.2.2]
theorem slC_len (p : Option Addr × Nat × Nat) : (slC p).length = 1 := rfl
theorem slC_one (p : Option Addr × Nat × Nat) : ∀ y ∈ slC p, y.oneCell' = true := by simp [slC, Value.oneCell']
theorem pay_fn (w : World) (vG vB : Value) (gs bs : List (Int × Int × Int)) (hG : Sl w vG 3 (cat ldc gs)) (hB : Sl w vB 3 (cat ldc bs)) : SX.Fn Tryz.prog 19 [.agg #[vG, vB]] w (fun _ => False) fun q N => ∃ v, q = .tuple #[v, I (payE gs bs)] := by
  have dn : ∀ (g : Nat) (xs : List Value), det0 g xs = none := fun _ _ => rfl
  have hop := fun (H : List HO) w' (hp : Hp ⟨w, fun _ => False⟩ H w') => gopen_fn w' vG vB gs bs (Sl.hp (w0 := ⟨w, fun _ => False⟩) hG (fun _ _ => id) hp) (Sl.hp (w0 := ⟨w, fun _ => False⟩) hB (fun _ _ => id) hp)
  obtain ⟨aG, nG, cG, rfl⟩ := hG.shape
  obtain ⟨aB, nB, cB, rfl⟩ := hB.shape
  refine walk [] [] (det0_ok _ _) Tryz.func19 rfl Tryz.ntmps19 res19 (by kernel_rfl) no_facts ?_
  simp (config := { maxSteps := 4000000 }) only [↓sx0, ↓sx1, ↓sx2, ↓sx3, ↓sx4, ↓sx5, ↓sx6, sx0, sx1, sx2, sx3, sx4, sx5, sx6, tf19, ev3_hold, sxo, sxc, sxp, sxq, sxr, sxs, sxl, sxm, simprocAttr, dn]
  refine CallOb.pureH (fun w' hp => hop _ w' hp) ?_
  rintro q N (⟨hok, rfl⟩ | ⟨hok, a1, c1, a2, c2, a3, c3, rfl, hn1, hn2, hn3, rfl⟩)
  · have e0 : payE gs bs = 110 := by unfold payE; rw [hok]; rfl
    rw [e0]
    refine ⟨?_⟩
    simp (config := { maxSteps := 4000000 }) only [↓sx0, ↓sx1, ↓sx2, ↓sx3, ↓sx4, ↓sx5, ↓sx6, sx0, sx1, sx2, sx3, sx4, sx5, sx6, tf19, ev3_hold, sxo, sxc, sxp, sxq, sxr, sxs, sxl, sxm, simprocAttr]
    try exact ⟨_, rfl⟩
  have hlen : gs.length ≤ 10 ∧ bs.length ≤ 8 := by
    unfold bookB at hok
    rw [Bool.and_eq_true, Bool.and_eq_true, decide_eq_true_eq, decide_eq_true_eq] at hok
    exact ⟨hok.1, hok.2.1⟩
  have hl1 := amL_len (Nat.le_refl gs.length)
  have hl2 := amL_len (Nat.le_refl bs.length)
  have hl3 := usL_len (gs := gs) (Nat.le_refl bs.length)
  refine ⟨?_⟩
  simp (config := { maxSteps := 4000000 }) only [↓sx0, ↓sx1, ↓sx2, ↓sx3, ↓sx4, ↓sx5, ↓sx6, sx0, sx1, sx2, sx3, sx4, sx5, sx6, tf19, ev3_hold, sxo, sxc, sxp, sxq, sxr, sxs, sxl, sxm, simprocAttr, dn]
  refine CallOb.pureH (fun w' hp => paid_fn w' (.slice a1 gs.length c1) (.slice a2 bs.length c2) (.slice a3 bs.length c3) (amL gs gs.length) (amL bs bs.length) (usL gs bs bs.length) (row_hp (E := 3) (by simp) hp) (row_hp (E := 3) (by simp) hp) (row_hp (E := 3) (by simp) hp) (by omega) (by omega) (by omega)) ?_
  rintro q N2 ⟨b, rfl, hb⟩
  rw [hl2] at hb
  have hb : b = true ↔ paidP gs bs := hb
  cases b with
  | false =>
    have e0 : payE gs bs = 3 := by
      unfold payE
      rw [hok, if_pos rfl, if_neg]
      intro h
      have := hb.2 h
      cases this
    rw [e0]
    refine ⟨?_⟩
    simp (config := { maxSteps := 4000000 }) only [↓sx0, ↓sx1, ↓sx2, ↓sx3, ↓sx4, ↓sx5, ↓sx6, sx0, sx1, sx2, sx3, sx4, sx5, sx6, tf19, ev3_hold, sxo, sxc, sxp, sxq, sxr, sxs, sxl, sxm, simprocAttr]
    try exact ⟨_, rfl⟩
  | true =>
  have e0 : payE gs bs = 0 := by
    unfold payE
    rw [hok, if_pos rfl, if_pos (hb.1 rfl)]
  rw [e0]
  refine ⟨?_⟩
  simp (config := { maxSteps := 4000000 }) only [↓sx0, ↓sx1, ↓sx2, ↓sx3, ↓sx4, ↓sx5, ↓sx6, sx0, sx1, sx2, sx3, sx4, sx5, sx6, tf19, ev3_hold, sxo, sxc, sxp, sxq, sxr, sxs, sxl, sxm, simprocAttr]
  have hng : 0 < gs.length → ∃ a, a1 = some a := fun h => by
    cases a1 with
    | none => rw [hn1 rfl] at h; simp at h
    | some a => exact ⟨a, rfl⟩
  have hnb2 : 0 < bs.length → ∃ a, a2 = some a := fun h => by
    cases a2 with
    | none => rw [hn2 rfl] at h; simp at h
    | some a => exact ⟨a, rfl⟩
  have hnb3 : 0 < bs.length → ∃ a, a3 = some a := fun h => by
    cases a3 with
    | none => rw [hn3 rfl] at h; simp at h
    | some a => exact ⟨a, rfl⟩
  refine loop_constH (HO.row (.slice none 0 0) 22 1 (cat slC []) :: [HO.row (.slice a3 bs.length c3) 3 1 (ints (usL gs bs bs.length)), HO.row (.slice a2 bs.length c2) 3 1 (ints (amL bs bs.length)), HO.row (.slice a1 gs.length c1) 3 1 (ints (amL gs gs.length))]) ((HImp.app _ _ _).trans (HImp.nilRow _ _ _ _)) [(6, 10), (29, 79)]
    (fun s : Nat × (Option Addr × Nat) × (List Int × List Int × List Int) × List (Option Addr × Nat × Nat) => [(6, .slice s.2.1.1 s.1 s.2.1.2), (29, I s.1)])
    (fun s H1 => s.1 ≤ bs.length ∧ s.2.2.1.1.length = bs.length ∧ s.2.2.1.2.1.length = bs.length ∧ s.2.2.1.2.2.length = gs.length ∧ s.2.2.2.length = s.1 ∧ H1 = HO.row (.slice s.2.1.1 s.1 s.2.1.2) 22 1 (cat slC s.2.2.2) :: [HO.row (.slice a3 bs.length c3) 3 1 (ints s.2.2.1.1), HO.row (.slice a2 bs.length c2) 3 1 (ints s.2.2.1.2.1), HO.row (.slice a1 gs.length c1) 3 1 (ints s.2.2.1.2.2)]) (fun s => bs.length - s.1)
    (0, (none, 0), (usL gs bs bs.length, amL bs bs.length, amL gs gs.length), []) ?_ ⟨Nat.zero_le _, hl3, hl2, hl1, rfl, rfl⟩ ?_
  · simp (config := { maxSteps := 4000000 }) only [↓sx0, ↓sx1, ↓sx2, ↓sx3, ↓sx4, ↓sx5, ↓sx6, sx0, sx1, sx2, sx3, sx4, sx5, sx6, tf19, ev3_hold, sxo, sxc, sxp, sxq, sxr, sxs, sxl, sxm, simprocAttr]
    try simp
  rintro ⟨k, ⟨ar, cr⟩, ⟨U, Nd, Lf⟩, vs⟩ H1 g1 hinv
  simp only [] at hinv
  obtain ⟨hk, hU, hN, hL, hvs, rfl⟩ := hinv
  by_cases hkn : k = bs.length
  · have e7 : ((k : Int) < (bs.length : Int)) = False := eq_false (by omega)
    refine ⟨?_⟩
    simp (config := { maxSteps := 4000000 }) only [↓sx0, ↓sx1, ↓sx2, ↓sx3, ↓sx4, ↓sx5, ↓sx6, sx0, sx1, sx2, sx3, sx4, sx5, sx6, tf19, ev3_hold, sxo, sxc, sxp, sxq, sxr, sxs, sxl, sxm, simprocAttr, e7]
    try exact ⟨_, rfl⟩
  have e7 : ((k : Int) < (bs.length : Int)) = True := eq_true (by omega)
  have e8 : wr (k + 1) = ((k + 1 : Nat) : Int) := (wrap_id (by omega)).trans (by omega)
  obtain ⟨a2, rfl⟩ := hnb2 (by omega)
  obtain ⟨a3, rfl⟩ := hnb3 (by omega)
  refine ⟨?_⟩
  simp (config := { maxSteps := 4000000 }) only [↓sx0, ↓sx1, ↓sx2, ↓sx3, ↓sx4, ↓sx5, ↓sx6, sx0, sx1, sx2, sx3, sx4, sx5, sx6, tf19, ev3_hold, sxo, sxc, sxp, sxq, sxr, sxs, sxl, sxm, simprocAttr, e7]
  refine ⟨by omega, by omega, by omega, fun b => ?_⟩
  rw [show zerosL gs.length [Value.int .i64 0] = ints (List.replicate gs.length 0) from zeros_cat i1 0 _]
  refine loop_constH _ (HImp.refl _ _) [(9, 10), (38, 74)] (fun s : Nat × List Int × List Int × List Int × List Int => [(38, I s.1)])
    (fun s H5 => s.1 ≤ gs.length ∧ s.2.1.length = gs.length ∧ s.2.2.1.length = bs.length ∧ s.2.2.2.1.length = bs.length ∧ s.2.2.2.2.length = gs.length ∧ H5 = HO.row (.slice (some ⟨b, 0, none⟩) gs.length gs.length) 3 1 (ints s.2.1) :: HO.row (.slice ar k cr) 22 1 (cat slC vs) :: [HO.row (.slice (some a3) bs.length c3) 3 1 (ints s.2.2.1), HO.row (.slice (some a2) bs.length c2) 3 1 (ints s.2.2.2.1), HO.row (.slice a1 gs.length c1) 3 1 (ints s.2.2.2.2)]) (fun s => gs.length - s.1)
    (0, List.replicate gs.length 0, U, Nd, Lf) ?_ ⟨Nat.zero_le _, by simp, hU, hN, hL, rfl⟩ ?_
  · simp (config := { maxSteps := 4000000 }) only [↓sx0, ↓sx1, ↓sx2, ↓sx3, ↓sx4, ↓sx5, ↓sx6, sx0, sx1, sx2, sx3, sx4, sx5, sx6, tf19, ev3_hold, sxo, sxc, sxp, sxq, sxr, sxs, sxl, sxm, simprocAttr]
    try simp
  rintro ⟨g, R, U2, N2', L2⟩ H5 g5 hinv
  simp only [] at hinv
  obtain ⟨hg, hR, hU2, hN2, hL2, rfl⟩ := hinv
  by_cases hgn : g = gs.length
  · have q7 : ((g : Int) < (gs.length : Int)) = False := eq_false (by omega)
    refine ⟨?_⟩
    simp (config := { maxSteps := 4000000 }) only [↓sx0, ↓sx1, ↓sx2, ↓sx3, ↓sx4, ↓sx5, ↓sx6, sx0, sx1, sx2, sx3, sx4, sx5, sx6, tf19, ev3_hold, sxo, sxc, sxp, sxq, sxr, sxs, sxl, sxm, simprocAttr, q7]
    intro bu
    refine app_one (l := vs) (some ⟨b, 0, none⟩, gs.length, gs.length) (HImp.tail _ _ _) slC_len slC_one (by omega) fun ad cc => ?_
    simp (config := { maxSteps := 4000000 }) only [↓sx0, ↓sx1, ↓sx2, ↓sx3, ↓sx4, ↓sx5, ↓sx6, sx0, sx1, sx2, sx3, sx4, sx5, sx6, tf19, ev3_hold, sxo, sxc, sxp, sxq, sxr, sxs, sxl, sxm, simprocAttr, hvs, e8]
    exact ⟨(k + 1, (some ad, cc), (U2, N2', L2), vs ++ [(some ⟨b, 0, none⟩, gs.length, gs.length)]), _, ⟨rfl, rfl⟩, HImp.refl _ _, ⟨by simp only []; omega, hU2, hN2, hL2, by simp [hvs], rfl⟩, by simp only []; omega⟩
  have q7 : ((g : Int) < (gs.length : Int)) = True := eq_true (by omega)
  have q8 : wr (g + 1) = ((g + 1 : Nat) : Int) := (wrap_id (by omega)).trans (by omega)
  obtain ⟨a1, rfl⟩ := hng (by omega)
  obtain ⟨y, hy⟩ : ∃ y, N2'[k]? = some y := ⟨_, List.getElem?_eq_getElem (by omega)⟩
  obtain ⟨z, hz⟩ : ∃ z, L2[g]? = some z := ⟨_, List.getElem?_eq_getElem (by omega)⟩
  obtain ⟨u, hu⟩ : ∃ u, U2[k]? = some u := ⟨_, List.getElem?_eq_getElem (by omega)⟩
  refine ⟨?_⟩
  simp (config := { maxSteps := 4000000 }) only [↓sx0, ↓sx1, ↓sx2, ↓sx3, ↓sx4, ↓sx5, ↓sx6, sx0, sx1, sx2, sx3, sx4, sx5, sx6, tf19, ev3_hold, sxo, sxc, sxp, sxq, sxr, sxs, sxl, sxm, simprocAttr, q7, dn]
  refine CallOb.pureH (fun w' hp => most_fn w' (.slice (some a1) gs.length c1) (.slice (some a2) bs.length c2) (.slice (some a3) bs.length c3) L2 N2' U2 (row_hp (E := 3) (by simp) hp) (row_hp (E := 3) (by simp) hp) (row_hp (E := 3) (by simp) hp) (by omega) (by omega) (by omega) k g (by omega) (by omega)) ?_
  rintro q N3 ⟨m, rfl⟩
  refine ⟨?_⟩
  simp (config := { maxSteps := 4000000 }) only [↓sx0, ↓sx1, ↓sx2, ↓sx3, ↓sx4, ↓sx5, ↓sx6, sx0, sx1, sx2, sx3, sx4, sx5, sx6, tf19, ev3_hold, sxo, sxc, sxp, sxq, sxr, sxs, sxl, sxm, simprocAttr, q7]
  refine ⟨by omega, _, rfl, ?_⟩
  refine wr_at (A := N3) (l := R) (k := g) (u := m) rfl i1_len hR (by omega) ?_
  simp (config := { maxSteps := 4000000 }) only [↓sx0, ↓sx1, ↓sx2, ↓sx3, ↓sx4, ↓sx5, ↓sx6, sx0, sx1, sx2, sx3, sx4, sx5, sx6, tf19, ev3_hold, sxo, sxc, sxp, sxq, sxr, sxs, sxl, sxm, simprocAttr, e7]
  refine amid (at_1 (row_rdv (v := .slice (some a2) bs.length c2) (E := 3) (sz := 1) (xs := ints N2') (by simp) ⟨_, _, _, rfl, by rw [cat_len i1_len, hN2], fun h => by cases h⟩) i1_len hy rfl fun ad1 => ?_)
  simp (config := { maxSteps := 4000000 }) only [↓sx0, ↓sx1, ↓sx2, ↓sx3, ↓sx4, ↓sx5, ↓sx6, sx0, sx1, sx2, sx3, sx4, sx5, sx6, tf19, ev3_hold, sxo, sxc, sxp, sxq, sxr, sxs, sxl, sxm, simprocAttr, e7]
  refine ⟨by omega, _, rfl, ?_⟩
  refine wr_at (A := N3 ++ [HO.row (.slice (some ⟨b, 0, none⟩) gs.length gs.length) 3 1 (ints (R.set g m)), HO.row (.slice ar k cr) 22 1 (cat slC vs), HO.row (.slice (some a3) bs.length c3) 3 1 (ints U2)]) (B := [HO.row (.slice (some a1) gs.length c1) 3 1 (ints L2)]) (ad := a2) (len := bs.length) (cap := c2) (e := 3) (sz := 1) (l := N2') (k := k) (u := wr (y - m)) (by simp) i1_len hN2 (by omega) ?_
  simp (config := { maxSteps := 4000000 }) only [↓sx0, ↓sx1, ↓sx2, ↓sx3, ↓sx4, ↓sx5, ↓sx6, sx0, sx1, sx2, sx3, sx4, sx5, sx6, tf19, ev3_hold, sxo, sxc, sxp, sxq, sxr, sxs, sxl, sxm, simprocAttr, q7, List.append_assoc, List.cons_append, List.nil_append]
  refine amid (at_1 (row_rdv (v := .slice (some a1) gs.length c1) (E := 3) (sz := 1) (xs := ints L2) (by simp) ⟨_, _, _, rfl, by rw [cat_len i1_len, hL2], fun h => by cases h⟩) i1_len hz rfl fun ad2 => ?_)
  simp (config := { maxSteps := 4000000 }) only [↓sx0, ↓sx1, ↓sx2, ↓sx3, ↓sx4, ↓sx5, ↓sx6, sx0, sx1, sx2, sx3, sx4, sx5, sx6, tf19, ev3_hold, sxo, sxc, sxp, sxq, sxr, sxs, sxl, sxm, simprocAttr, q7]
  refine ⟨by omega, _, rfl, ?_⟩
  refine wr_at (A := N3 ++ [HO.row (.slice (some ⟨b, 0, none⟩) gs.length gs.length) 3 1 (ints (R.set g m)), HO.row (.slice ar k cr) 22 1 (cat slC vs), HO.row (.slice (some a3) bs.length c3) 3 1 (ints U2), HO.row (.slice (some a2) bs.length c2) 3 1 (ints (N2'.set k (wr (y - m))))]) (B := []) (ad := a1) (len := gs.length) (cap := c1) (e := 3) (sz := 1) (l := L2) (k := g) (u := wr (z - m)) (by simp) i1_len hL2 (by omega) ?_
  simp (config := { maxSteps := 4000000 }) only [↓sx0, ↓sx1, ↓sx2, ↓sx3, ↓sx4, ↓sx5, ↓sx6, sx0, sx1, sx2, sx3, sx4, sx5, sx6, tf19, ev3_hold, sxo, sxc, sxp, sxq, sxr, sxs, sxl, sxm, simprocAttr, e7, List.append_assoc, List.cons_append, List.nil_append]
  refine amid (at_1 (row_rdv (v := .slice (some a3) bs.length c3) (E := 3) (sz := 1) (xs := ints U2) (by simp) ⟨_, _, _, rfl, by rw [cat_len i1_len, hU2], fun h => by cases h⟩) i1_len hu rfl fun ad3 => ?_)
  simp (config := { maxSteps := 4000000 }) only [↓sx0, ↓sx1, ↓sx2, ↓sx3, ↓sx4, ↓sx5, ↓sx6, sx0, sx1, sx2, sx3, sx4, sx5, sx6, tf19, ev3_hold, sxo, sxc, sxp, sxq, sxr, sxs, sxl, sxm, simprocAttr, e7]
  refine ⟨by omega, by omega, _, rfl, ?_⟩
  refine wr_at (A := N3 ++ [HO.row (.slice (some ⟨b, 0, none⟩) gs.length gs.length) 3 1 (ints (R.set g m)), HO.row (.slice ar k cr) 22 1 (cat slC vs)]) (B := [HO.row (.slice (some a2) bs.length c2) 3 1 (ints (N2'.set k (wr (y - m)))), HO.row (.slice (some a1) gs.length c1) 3 1 (ints (L2.set g (wr (z - m))))]) (ad := a3) (len := bs.length) (cap := c3) (e := 3) (sz := 1) (l := U2) (k := k) (u := bitS .andNot .i64 u (wr (1 * 2 ^ (min g IntKind.i64.bits)))) (by simp) i1_len hU2 (by omega) ?_
  simp (config := { maxSteps := 4000000 }) only [↓sx0, ↓sx1, ↓sx2, ↓sx3, ↓sx4, ↓sx5, ↓sx6, sx0, sx1, sx2, sx3, sx4, sx5, sx6, tf19, ev3_hold, sxo, sxc, sxp, sxq, sxr, sxs, sxl, sxm, simprocAttr, q8, List.append_assoc, List.cons_append, List.nil_append]
  exact ⟨(g + 1, R.set g m, U2.set k (bitS .andNot .i64 u (wr (1 * 2 ^ (min g IntKind.i64.bits)))), N2'.set k (wr (y - m)), L2.set g (wr (z - m))), _, rfl, HImp.app _ _ _, ⟨by simp only []; omega, by simp [hR], by simp [hU2], by simp [hN2], by simp [hL2], rfl⟩, by simp only []; omega⟩
end Go.Proofs.YtnbogcpnpcbjgaaGreatDoor

namespace Go.Proofs.YtnbogcpnpcbjgaaGreatDoor
open Go.RowKit Go.SX
set_option maxRecDepth 10000
set_option maxHeartbeats 0
set_option linter.unusedSimpArgs false
set_option linter.unusedVariables false
structure Mon where
  il : Int
  ih : Int
  cl : Int
  ch : Int
def moc (x : Mon) : List Value := [I x.il, I x.ih, I x.cl, I x.ch]
theorem moc_len (x : Mon) : (moc x).length = 4 := rfl
theorem moc_one (x : Mon) : ∀ y ∈ moc x, y.oneCell' = true := by simp [moc, Value.oneCell']
def vM (x : Mon) : Value := .agg (moc x).toArray
theorem vM_inj (a b : Mon) (h : vM a = vM b) : a = b := by
  obtain ⟨a1, a2, a3, a4⟩ := a
  obtain ⟨b1, b2, b3, b4⟩ := b
  simp only [vM, moc, Value.agg.injEq] at h
  injection h with h
  simp only [List.cons.injEq, Value.int.injEq, true_and, and_true] at h
  obtain ⟨rfl, rfl, rfl, rfl⟩ := h
  rfl
theorem indexM_fn (w : World) (v : Value) (l : List Mon) (g : Nat) (cap : List Value) (p : Mon → Bool) (hs : Sl w v 4 (cat moc l)) (hb : l.length ≤ 1000) (hp : Tells w (fun _ => False) vM g cap p) :
    SX.Fn Tryz.prog 146 [v, .func (.func g) [].toArray cap.toArray] w (fun _ => False) fun r N => ∃ n : Int, r = I n ∧ decide (n ≥ 0) = l.any p := by
  obtain ⟨a, n, c, rfl⟩ := hs.shape
  have hn := hs.le moc_len (by omega)
  have hr := hs.rd0
  have hT := hp.1
  have hd := fun m => detP_eq vM_inj g cap p m
  refine walk [] [] (detP_ok vM_inj hp) Tryz.func146 rfl Tryz.ntmps146 res146 (by kernel_rfl) no_facts ?_
  simp (config := { maxSteps := 4000000 }) only [↓sx0, ↓sx1, ↓sx2, ↓sx3, ↓sx4, ↓sx5, ↓sx6, sx0, sx1, sx2, sx3, sx4, sx5, sx6, tf146, ev3_hold, sxo, sxc, sxp, sxq, sxr, sxs, sxl, sxm, simprocAttr]
  refine loop_const [(4, 5), (8, 18)] (fun k : Nat => [(8, I k)]) (fun k H1 => H1 = [] ∧ k ≤ n ∧ l.any p = (l.drop k).any p) (fun k => n - k) 0 ?_ ⟨rfl, Nat.zero_le _, rfl⟩ ?_
  · simp (config := { maxSteps := 4000000 }) only [↓sx0, ↓sx1, ↓sx2, ↓sx3, ↓sx4, ↓sx5, ↓sx6, sx0, sx1, sx2, sx3, sx4, sx5, sx6, tf146, ev3_hold, sxo, sxc, sxp, sxq, sxr, sxs, sxl, sxm, simprocAttr]
    try simp
  · rintro k H1 g1 ⟨rfl, hk, ht⟩
    by_cases hkn : k = n
    · subst hkn
      have e7 : ((k : Int) < (k : Int)) = False := eq_false (by omega)
      simp (config := { maxSteps := 4000000 }) only [↓sx0, ↓sx1, ↓sx2, ↓sx3, ↓sx4, ↓sx5, ↓sx6, sx0, sx1, sx2, sx3, sx4, sx5, sx6, tf146, ev3_hold, sxo, sxc, sxp, sxq, sxr, sxs, sxl, sxm, simprocAttr, e7]
      refine ⟨-1, rfl, ?_⟩
      rw [ht, List.drop_of_length_le (by omega)]
      rfl
    · have e7 : ((k : Int) < (n : Int)) = True := eq_true (by omega)
      have e2 : wr (k + 1) = ((k + 1 : Nat) : Int) := (wrap_id (by omega)).trans (by omega)
      have hkl : k < l.length := by omega
      have hdk := hd l[k]
      rw [vM] at hdk
      simp (config := { maxSteps := 4000000 }) only [↓sx0, ↓sx1, ↓sx2, ↓sx3, ↓sx4, ↓sx5, ↓sx6, sx0, sx1, sx2, sx3, sx4, sx5, sx6, tf146, ev3_hold, sxo, sxc, sxp, sxq, sxr, sxs, sxl, sxm, simprocAttr, e7]
      refine amid (at_n (hr _) moc_len (by omega) (List.getElem?_eq_getElem hkl) fun ad => ?_)
      rw [List.drop_eq_getElem_cons hkl, List.any_cons] at ht
      simp (config := { maxSteps := 4000000 }) only [↓sx0, ↓sx1, ↓sx2, ↓sx3, ↓sx4, ↓sx5, ↓sx6, sx0, sx1, sx2, sx3, sx4, sx5, sx6, tf146, ev3_hold, sxo, sxc, sxp, sxq, sxr, sxs, sxl, sxm, simprocAttr, e2, hT, hdk]
      refine ⟨fun h1 => ⟨k, rfl, ?_⟩, fun h1 => ⟨k + 1, _, rfl, HImp.refl _ _, ⟨rfl, by omega, ?_⟩, by omega⟩⟩
      · rw [ht, h1, Bool.true_or, decide_eq_true_iff]
        omega
      · rw [ht, h1, Bool.false_or]
theorem containsM_fn (w : World) (v : Value) (l : List Mon) (g : Nat) (cap : List Value) (p : Mon → Bool) (hs : Sl w v 4 (cat moc l)) (hb : l.length ≤ 1000) (hp : Tells w (fun _ => False) vM g cap p) :
    SX.Fn Tryz.prog 94 [v, .func (.func g) [].toArray cap.toArray] w (fun _ => False) fun r N => r = .bool (l.any p) := by
  obtain ⟨a, n, c, rfl⟩ := hs.shape
  refine walk [] [] (det0_ok _ _) Tryz.func94 rfl Tryz.ntmps94 res94 (by kernel_rfl) no_facts ?_
  simp (config := { maxSteps := 4000000 }) only [↓sx0, ↓sx1, ↓sx2, ↓sx3, ↓sx4, ↓sx5, ↓sx6, sx0, sx1, sx2, sx3, sx4, sx5, sx6, tf94, ev3_hold, sxo, sxc, sxp, sxq, sxr, sxs, sxl, sxm, simprocAttr, det0]
  refine CallOb.pure (fun w' hp' => indexM_fn w' _ l g cap p (hs.hp (fun _ _ => id) hp') hb ⟨hp.1, fun w2 hk => hp.2 w2 (hk.into hp'.ext fun _ h => h.elim)⟩) ?_
  rintro r N ⟨m, rfl, hm⟩
  rw [← hm]
  simp (config := { maxSteps := 4000000 }) only [↓sx0, ↓sx1, ↓sx2, ↓sx3, ↓sx4, ↓sx5, ↓sx6, sx0, sx1, sx2, sx3, sx4, sx5, sx6, tf94, ev3_hold, sxo, sxc, sxp, sxq, sxr, sxs, sxl, sxm, simprocAttr]
def amtB (lo hi : Int) : Bool := decide (0 ≤ lo) && (decide (lo ≤ hi) && decide (hi ≤ 1000000))
theorem amount_fn (w : World) (lo hi : Int) : SX.Fn Tryz.prog 93 [.agg #[I lo, I hi]] w (fun _ => False) fun q N => q = .bool (amtB lo hi) := by
  unfold amtB
  by_cases h1 : 0 ≤ lo
  case neg =>
    have e1 : (0 ≤ lo) = False := eq_false h1
    rw [decide_eq_false h1]
    refine walk [] [] (det0_ok _ _) Tryz.func93 rfl Tryz.ntmps93 res93 (by kernel_rfl) no_facts ?_
    simp (config := { maxSteps := 4000000 }) only [↓sx0, ↓sx1, ↓sx2, ↓sx3, ↓sx4, ↓sx5, ↓sx6, sx0, sx1, sx2, sx3, sx4, sx5, sx6, tf93, ev3_hold, sxo, sxc, sxp, sxq, sxr, sxs, sxl, sxm, simprocAttr, e1]
    try simp
  have e1 : (0 ≤ lo) = True := eq_true h1
  rw [decide_eq_true h1]
  by_cases h2 : lo ≤ hi
  case neg =>
    have e2 : (lo ≤ hi) = False := eq_false h2
    rw [decide_eq_false h2]
    refine walk [] [] (det0_ok _ _) Tryz.func93 rfl Tryz.ntmps93 res93 (by kernel_rfl) no_facts ?_
    simp (config := { maxSteps := 4000000 }) only [↓sx0, ↓sx1, ↓sx2, ↓sx3, ↓sx4, ↓sx5, ↓sx6, sx0, sx1, sx2, sx3, sx4, sx5, sx6, tf93, ev3_hold, sxo, sxc, sxp, sxq, sxr, sxs, sxl, sxm, simprocAttr, e1, e2]
    try simp
  have e2 : (lo ≤ hi) = True := eq_true h2
  rw [decide_eq_true h2]
  refine walk [] [] (det0_ok _ _) Tryz.func93 rfl Tryz.ntmps93 res93 (by kernel_rfl) no_facts ?_
  simp (config := { maxSteps := 4000000 }) only [↓sx0, ↓sx1, ↓sx2, ↓sx3, ↓sx4, ↓sx5, ↓sx6, sx0, sx1, sx2, sx3, sx4, sx5, sx6, tf93, ev3_hold, sxo, sxc, sxp, sxq, sxr, sxs, sxl, sxm, simprocAttr, e1, e2]
  try simp
def badM (x : Mon) : Bool := !(amtB x.il x.ih && amtB x.cl x.ch)
theorem badM_fn (w : World) (x : Mon) : SX.Fn Tryz.prog 92 [vM x] w (fun _ => False) fun v N => v = .bool (badM x) := by
  have dn : ∀ (g : Nat) (xs : List Value), det0 g xs = none := fun _ _ => rfl
  have h1 := fun w' => amount_fn w' x.il x.ih
  have h2 := fun w' => amount_fn w' x.cl x.ch
  unfold vM moc badM
  cases b1 : amtB x.il x.ih with
  | false =>
    simp only [b1] at h1
    refine walk [] [] (det0_ok _ _) Tryz.func92 rfl Tryz.ntmps92 res92 (by kernel_rfl) no_facts ?_
    simp (config := { maxSteps := 4000000 }) only [↓sx0, ↓sx1, ↓sx2, ↓sx3, ↓sx4, ↓sx5, ↓sx6, sx0, sx1, sx2, sx3, sx4, sx5, sx6, tf92, ev3_hold, sxo, sxc, sxp, sxq, sxr, sxs, sxl, sxm, simprocAttr, dn]
    refine CallOb.pureH (fun w' hp => h1 w') ?_
    rintro q N rfl
    refine ⟨?_⟩
    simp (config := { maxSteps := 4000000 }) only [↓sx0, ↓sx1, ↓sx2, ↓sx3, ↓sx4, ↓sx5, ↓sx6, sx0, sx1, sx2, sx3, sx4, sx5, sx6, tf92, ev3_hold, sxo, sxc, sxp, sxq, sxr, sxs, sxl, sxm, simprocAttr]
    try simp
  | true =>
    simp only [b1] at h1
    refine walk [] [] (det0_ok _ _) Tryz.func92 rfl Tryz.ntmps92 res92 (by kernel_rfl) no_facts ?_
    simp (config := { maxSteps := 4000000 }) only [↓sx0, ↓sx1, ↓sx2, ↓sx3, ↓sx4, ↓sx5, ↓sx6, sx0, sx1, sx2, sx3, sx4, sx5, sx6, tf92, ev3_hold, sxo, sxc, sxp, sxq, sxr, sxs, sxl, sxm, simprocAttr, dn]
    refine CallOb.pureH (fun w' hp => h1 w') ?_
    rintro q N rfl
    refine ⟨?_⟩
    simp (config := { maxSteps := 4000000 }) only [↓sx0, ↓sx1, ↓sx2, ↓sx3, ↓sx4, ↓sx5, ↓sx6, sx0, sx1, sx2, sx3, sx4, sx5, sx6, tf92, ev3_hold, sxo, sxc, sxp, sxq, sxr, sxs, sxl, sxm, simprocAttr, dn]
    refine CallOb.pureH (fun w' hp => h2 w') ?_
    rintro q N2 rfl
    refine ⟨?_⟩
    simp (config := { maxSteps := 4000000 }) only [↓sx0, ↓sx1, ↓sx2, ↓sx3, ↓sx4, ↓sx5, ↓sx6, sx0, sx1, sx2, sx3, sx4, sx5, sx6, tf92, ev3_hold, sxo, sxc, sxp, sxq, sxr, sxs, sxl, sxm, simprocAttr]
    try simp
theorem worst_fn (w : World) (x : Mon) : SX.Fn Tryz.prog 54 [vM x] w (fun _ => False) fun v N => v = I (wr (x.il - x.ch)) := by
  unfold vM moc
  refine walk [] [] (det0_ok _ _) Tryz.func54 rfl Tryz.ntmps54 res54 (by kernel_rfl) no_facts ?_
  simp (config := { maxSteps := 4000000 }) only [↓sx0, ↓sx1, ↓sx2, ↓sx3, ↓sx4, ↓sx5, ↓sx6, sx0, sx1, sx2, sx3, sx4, sx5, sx6, tf54, ev3_hold, sxo, sxc, sxp, sxq, sxr, sxs, sxl, sxm, simprocAttr]
  try rfl
theorem best_fn (w : World) (x : Mon) : SX.Fn Tryz.prog 55 [vM x] w (fun _ => False) fun v N => v = I (wr (x.ih - x.cl)) := by
  unfold vM moc
  refine walk [] [] (det0_ok _ _) Tryz.func55 rfl Tryz.ntmps55 res55 (by kernel_rfl) no_facts ?_
  simp (config := { maxSteps := 4000000 }) only [↓sx0, ↓sx1, ↓sx2, ↓sx3, ↓sx4, ↓sx5, ↓sx6, sx0, sx1, sx2, sx3, sx4, sx5, sx6, tf55, ev3_hold, sxo, sxc, sxp, sxq, sxr, sxs, sxl, sxm, simprocAttr]
  try rfl
theorem tellsM (w : World) : Tells w (fun _ => False) vM 92 [] badM := ⟨Tryz.call92, fun w' _ a => det_of_fn (badM_fn w' a)⟩
def yearB (r l : Int) (ms : List Mon) : Bool := decide (0 ≤ r ∧ r ≤ 1000000) && (decide (0 ≤ l ∧ l ≤ r) && (decide (ms.length ≤ 60) && !ms.any badM))
theorem checkYear_fn (w : World) (vS : Value) (r l : Int) (ms : List Mon) (hS : Sl w vS 4 (cat moc ms)) : SX.Fn Tryz.prog 52 [.agg #[I r, I l, vS]] w (fun _ => False) fun q N => q = I (if yearB r l ms then 0 else 111) := by
  have dn : ∀ (g : Nat) (xs : List Value), det0 g xs = none := fun _ _ => rfl
  have h1 := fun w' => gwithin_fn w' r 0 1000000
  have h2 := fun w' => gwithin_fn w' l 0 r
  have hcM := fun (hl : ms.length ≤ 1000) (H : List HO) w' (hp : Hp ⟨w, fun _ => False⟩ H w') => containsM_fn w' vS ms 92 [] badM (Sl.hp (w0 := ⟨w, fun _ => False⟩) hS (fun _ _ => id) hp) hl (tellsM w')
  obtain ⟨aS, nS, cS, rfl⟩ := hS.shape
  have hnS := hS.le moc_len (by omega)
  subst hnS
  unfold yearB
  cases b1 : decide (0 ≤ r ∧ r ≤ 1000000) with
  | false =>
    simp only [b1] at h1
    refine walk [] [] (det0_ok _ _) Tryz.func52 rfl Tryz.ntmps52 res52 (by kernel_rfl) no_facts ?_
    simp (config := { maxSteps := 4000000 }) only [↓sx0, ↓sx1, ↓sx2, ↓sx3, ↓sx4, ↓sx5, ↓sx6, sx0, sx1, sx2, sx3, sx4, sx5, sx6, tf52, ev3_hold, sxo, sxc, sxp, sxq, sxr, sxs, sxl, sxm, simprocAttr, dn]
    refine CallOb.pureH (fun w' hp => h1 w') ?_
    rintro q N rfl
    refine ⟨?_⟩
    simp (config := { maxSteps := 4000000 }) only [↓sx0, ↓sx1, ↓sx2, ↓sx3, ↓sx4, ↓sx5, ↓sx6, sx0, sx1, sx2, sx3, sx4, sx5, sx6, tf52, ev3_hold, sxo, sxc, sxp, sxq, sxr, sxs, sxl, sxm, simprocAttr]
    try simp
  | true =>
  simp only [b1] at h1
  cases b2 : decide (0 ≤ l ∧ l ≤ r) with
  | false =>
    simp only [b2] at h2
    refine walk [] [] (det0_ok _ _) Tryz.func52 rfl Tryz.ntmps52 res52 (by kernel_rfl) no_facts ?_
    simp (config := { maxSteps := 4000000 }) only [↓sx0, ↓sx1, ↓sx2, ↓sx3, ↓sx4, ↓sx5, ↓sx6, sx0, sx1, sx2, sx3, sx4, sx5, sx6, tf52, ev3_hold, sxo, sxc, sxp, sxq, sxr, sxs, sxl, sxm, simprocAttr, dn]
    refine CallOb.pureH (fun w' hp => h1 w') ?_
    rintro q N rfl
    refine ⟨?_⟩
    simp (config := { maxSteps := 4000000 }) only [↓sx0, ↓sx1, ↓sx2, ↓sx3, ↓sx4, ↓sx5, ↓sx6, sx0, sx1, sx2, sx3, sx4, sx5, sx6, tf52, ev3_hold, sxo, sxc, sxp, sxq, sxr, sxs, sxl, sxm, simprocAttr, dn]
    refine CallOb.pureH (fun w' hp => h2 w') ?_
    rintro q N2 rfl
    refine ⟨?_⟩
    simp (config := { maxSteps := 4000000 }) only [↓sx0, ↓sx1, ↓sx2, ↓sx3, ↓sx4, ↓sx5, ↓sx6, sx0, sx1, sx2, sx3, sx4, sx5, sx6, tf52, ev3_hold, sxo, sxc, sxp, sxq, sxr, sxs, sxl, sxm, simprocAttr]
    try simp
  | true =>
  simp only [b2] at h2
  by_cases h3 : ms.length ≤ 60
  case neg =>
    have e3 : ((ms.length : Int) > 60) = True := eq_true (by omega)
    rw [decide_eq_false h3]
    refine walk [] [] (det0_ok _ _) Tryz.func52 rfl Tryz.ntmps52 res52 (by kernel_rfl) no_facts ?_
    simp (config := { maxSteps := 4000000 }) only [↓sx0, ↓sx1, ↓sx2, ↓sx3, ↓sx4, ↓sx5, ↓sx6, sx0, sx1, sx2, sx3, sx4, sx5, sx6, tf52, ev3_hold, sxo, sxc, sxp, sxq, sxr, sxs, sxl, sxm, simprocAttr, dn]
    refine CallOb.pureH (fun w' hp => h1 w') ?_
    rintro q N rfl
    refine ⟨?_⟩
    simp (config := { maxSteps := 4000000 }) only [↓sx0, ↓sx1, ↓sx2, ↓sx3, ↓sx4, ↓sx5, ↓sx6, sx0, sx1, sx2, sx3, sx4, sx5, sx6, tf52, ev3_hold, sxo, sxc, sxp, sxq, sxr, sxs, sxl, sxm, simprocAttr, dn]
    refine CallOb.pureH (fun w' hp => h2 w') ?_
    rintro q N2 rfl
    refine ⟨?_⟩
    simp (config := { maxSteps := 4000000 }) only [↓sx0, ↓sx1, ↓sx2, ↓sx3, ↓sx4, ↓sx5, ↓sx6, sx0, sx1, sx2, sx3, sx4, sx5, sx6, tf52, ev3_hold, sxo, sxc, sxp, sxq, sxr, sxs, sxl, sxm, simprocAttr, e3]
    try simp
  have e3 : ((ms.length : Int) > 60) = False := eq_false (by omega)
  rw [decide_eq_true h3]
  have hcM := hcM (by omega)
  cases b4 : ms.any badM <;> simp only [b4] at hcM
  all_goals
    refine walk [] [] (det0_ok _ _) Tryz.func52 rfl Tryz.ntmps52 res52 (by kernel_rfl) no_facts ?_
    simp (config := { maxSteps := 4000000 }) only [↓sx0, ↓sx1, ↓sx2, ↓sx3, ↓sx4, ↓sx5, ↓sx6, sx0, sx1, sx2, sx3, sx4, sx5, sx6, tf52, ev3_hold, sxo, sxc, sxp, sxq, sxr, sxs, sxl, sxm, simprocAttr, dn]
    refine CallOb.pureH (fun w' hp => h1 w') ?_
    rintro q N rfl
    refine ⟨?_⟩
    simp (config := { maxSteps := 4000000 }) only [↓sx0, ↓sx1, ↓sx2, ↓sx3, ↓sx4, ↓sx5, ↓sx6, sx0, sx1, sx2, sx3, sx4, sx5, sx6, tf52, ev3_hold, sxo, sxc, sxp, sxq, sxr, sxs, sxl, sxm, simprocAttr, dn]
    refine CallOb.pureH (fun w' hp => h2 w') ?_
    rintro q N2 rfl
    refine ⟨?_⟩
    simp (config := { maxSteps := 4000000 }) only [↓sx0, ↓sx1, ↓sx2, ↓sx3, ↓sx4, ↓sx5, ↓sx6, sx0, sx1, sx2, sx3, sx4, sx5, sx6, tf52, ev3_hold, sxo, sxc, sxp, sxq, sxr, sxs, sxl, sxm, simprocAttr, e3, dn]
    refine CallOb.pureH (fun w' hp => hcM _ w' hp) ?_
    rintro q N3 rfl
    refine ⟨?_⟩
    simp (config := { maxSteps := 4000000 }) only [↓sx0, ↓sx1, ↓sx2, ↓sx3, ↓sx4, ↓sx5, ↓sx6, sx0, sx1, sx2, sx3, sx4, sx5, sx6, tf52, ev3_hold, sxo, sxc, sxp, sxq, sxr, sxs, sxl, sxm, simprocAttr]
    try simp
end Go.Proofs.YtnbogcpnpcbjgaaGreatDoor

namespace Go.Proofs.YtnbogcpnpcbjgaaGreatDoor
open Go.RowKit Go.SX
set_option maxRecDepth 10000
set_option maxHeartbeats 0
set_option linter.unusedSimpArgs false
set_option linter.unusedVariables false
def pgs (inc : List Int) (k : Nat) : List (Int × Int × Int) := (List.range k).map fun (i : Nat) => (255, (i : Int), inc.getD i 0)
def pbs (cost : List Int) (k : Nat) : List (Int × Int × Int) := (List.range k).map fun (i : Nat) => ((i : Int), (i : Int), cost.getD i 0)
def pms (inc cost : List Int) (k : Nat) : List Mon := (List.range k).map fun (i : Nat) => ⟨inc.getD i 0, inc.getD i 0, cost.getD i 0, cost.getD i 0⟩
theorem pgs_len (inc : List Int) (k : Nat) : (pgs inc k).length = k := by simp [pgs]
theorem pbs_len (cost : List Int) (k : Nat) : (pbs cost k).length = k := by simp [pbs]
theorem pms_len (inc cost : List Int) (k : Nat) : (pms inc cost k).length = k := by simp [pms]
theorem pgs_succ (inc : List Int) (k : Nat) : pgs inc (k + 1) = pgs inc k ++ [(255, (k : Int), inc.getD k 0)] := by simp [pgs, List.range_succ]
theorem pbs_succ (cost : List Int) (k : Nat) : pbs cost (k + 1) = pbs cost k ++ [((k : Int), (k : Int), cost.getD k 0)] := by simp [pbs, List.range_succ]
theorem pms_succ (inc cost : List Int) (k : Nat) : pms inc cost (k + 1) = pms inc cost k ++ [⟨inc.getD k 0, inc.getD k 0, cost.getD k 0, cost.getD k 0⟩] := by simp [pms, List.range_succ]
theorem pgs_get {inc : List Int} {k n : Nat} (h : k < n) : (pgs inc n).getD k (0, 0, 0) = (255, (k : Int), inc.getD k 0) := by
  rw [List.getD_eq_getElem?_getD, pgs, List.getElem?_map, List.getElem?_range h]
  rfl
theorem pms_get {inc cost : List Int} {k n : Nat} (h : k < n) : (pms inc cost n).getD k ⟨0, 0, 0, 0⟩ = ⟨inc.getD k 0, inc.getD k 0, cost.getD k 0, cost.getD k 0⟩ := by
  rw [List.getD_eq_getElem?_getD, pms, List.getElem?_map, List.getElem?_range h]
  rfl
theorem all255 : ∀ i : Fin 8, bitI 255 i.val = true := by decide +kernel
theorem shlI : ∀ k : Fin 6, IntKind.i64.wrap (1 * 2 ^ (min k.val IntKind.i64.bits)) = ((2 ^ k.val : Nat) : Int) := by decide +kernel
theorem pow64 : ∀ k : Fin 6, 2 ^ k.val < 64 := by decide
def pgx (inc : List Int) (n : Nat) (x : Bool) (e : Int) : List (Int × Int × Int) := pgs inc n ++ if x then [(255, 0, e)] else []
theorem gsetL_app (gs hs : List (Int × Int × Int)) (y : Int × Int × Int) : ∀ k, k ≤ gs.length → gsetL (gs ++ hs) y k = gsetL gs y k
  | 0, _ => rfl
  | k + 1, h => by
    have ih := gsetL_app gs hs y k (by omega)
    have e : (gs ++ hs).getD k (0, 0, 0) = gs.getD k (0, 0, 0) := by
      rw [List.getD_eq_getElem?_getD, List.getElem?_append_left (by omega), ← List.getD_eq_getElem?_getD]
    rw [gsetL, gsetL, ih, e]
theorem gsetL_is {inc : List Int} {n : Nat} (hn : n ≤ 5) {j : Nat} (hj : j < n) (a : Int) : ∀ k, k ≤ n → gsetL (pgs inc n) ((j : Int), (j : Int), a) k = ((2 ^ (min k (j + 1)) - 1 : Nat) : Int)
  | 0, _ => by simp [gsetL]
  | k + 1, h => by
    have ih := gsetL_is hn hj a (inc := inc) k (by omega)
    have hb : bitI 255 j = true := all255 ⟨j, by omega⟩
    have hf : fitB ((pgs inc n).getD k (0, 0, 0)) ((j : Int), (j : Int), a) = decide (k ≤ j) := by
      rw [pgs_get (by omega)]
      unfold fitB
      simp only []
      rw [Int.toNat_natCast, hb, Bool.true_and, decide_eq_decide]
      omega
    rw [gsetL, ih, hf]
    by_cases hk : k ≤ j
    · rw [decide_eq_true hk, if_pos rfl, show min k (j + 1) = k by omega, show min (k + 1) (j + 1) = k + 1 by omega, show wr (1 * 2 ^ (min k IntKind.i64.bits)) = ((2 ^ k : Nat) : Int) from shlI ⟨k, by omega⟩]
      have h1 : 2 ^ k < 64 := pow64 ⟨k, by omega⟩
      have h2 := or64 ⟨2 ^ k - 1, by omega⟩ ⟨2 ^ k, h1⟩
      simp only [] at h2
      rw [h2]
      congr 1
      refine Nat.eq_of_testBit_eq fun i => ?_
      rw [Nat.testBit_or, Nat.testBit_two_pow_sub_one, Nat.testBit_two_pow_sub_one, Nat.testBit_two_pow, ← Bool.decide_or, decide_eq_decide]
      omega
    · rw [decide_eq_false hk, show min k (j + 1) = j + 1 by omega, show min (k + 1) (j + 1) = j + 1 by omega]
      rfl
theorem gsetL_use {inc : List Int} {n : Nat} (hn : n ≤ 5) (x : Bool) (e : Int) {j : Nat} (hj : j < n) (a : Int) : gsetL (pgx inc n x e) ((j : Int), (j : Int), a) (pgx inc n x e).length = ((useN n x j : Nat) : Int) := by
  have h0 := gsetL_is (inc := inc) hn hj a n (Nat.le_refl _)
  have h1 := gsetL_app (pgs inc n) (if x then [(255, 0, e)] else []) ((j : Int), (j : Int), a) n (by rw [pgs_len]; omega)
  rw [show min n (j + 1) = j + 1 by omega] at h0
  unfold pgx
  cases x with
  | false =>
    simp only [Bool.false_eq_true, if_false, List.append_nil, pgs_len]
    rw [h0]
    unfold useN
    simp
  | true =>
    simp only [if_true] at h1 ⊢
    have hb : bitI 255 j = true := all255 ⟨j, by omega⟩
    have hg : (pgs inc n ++ [((255 : Int), (0 : Int), e)]).getD n (0, 0, 0) = (255, 0, e) := by
      rw [List.getD_eq_getElem?_getD, List.getElem?_append_right (by rw [pgs_len]; omega), pgs_len, Nat.sub_self]
      rfl
    have hf : fitB (255, 0, e) ((j : Int), (j : Int), a) = true := by
      unfold fitB
      rw [Int.toNat_natCast, hb, Bool.true_and]
      exact decide_eq_true (by simp)
    rw [List.length_append, pgs_len, List.length_singleton, gsetL, h1, h0, hg, hf, if_pos rfl, show wr (1 * 2 ^ (min n IntKind.i64.bits)) = ((2 ^ n : Nat) : Int) from shlI ⟨n, by omega⟩]
    have h3 : 2 ^ (j + 1) < 64 := pow64 ⟨j + 1, by omega⟩
    have h2 := or64 ⟨2 ^ (j + 1) - 1, by omega⟩ ⟨2 ^ n, pow64 ⟨n, by omega⟩⟩
    simp only [] at h2
    rw [h2]
    unfold useN
    rfl
theorem usL_use {inc cost : List Int} {n : Nat} (hn : n ≤ 5) (x : Bool) (e : Int) : usL (pgx inc n x e) (pbs cost n) (pbs cost n).length = (List.range n).map fun j => ((useN n x j : Nat) : Int) := by
  unfold usL
  rw [List.take_length]
  unfold pbs
  rw [List.map_map]
  refine List.map_congr_left fun j hj => ?_
  exact gsetL_use hn x e (by simpa using hj) _
theorem amL_pgx {inc : List Int} {n : Nat} (hi : inc.length = n) (x : Bool) (e : Int) : amL (pgx inc n x e) (pgx inc n x e).length = inc ++ if x then [e] else [] := by
  unfold amL pgx
  rw [List.take_length, List.map_append]
  congr 1
  · refine List.ext_getElem? fun i => ?_
    unfold pgs
    rw [List.getElem?_map, List.getElem?_map]
    by_cases h : i < n
    · rw [List.getElem?_range h, List.getElem?_eq_getElem (by omega), Option.map_some, Option.map_some, List.getD_eq_getElem?_getD, List.getElem?_eq_getElem (by omega)]
      rfl
    · rw [List.getElem?_eq_none (by simpa using h), List.getElem?_eq_none (by omega)]
      rfl
  · cases x <;> rfl
theorem amL_pbs {cost : List Int} {n : Nat} (hc : cost.length = n) : amL (pbs cost n) (pbs cost n).length = cost := by
  unfold amL
  rw [List.take_length]
  refine List.ext_getElem? fun i => ?_
  unfold pbs
  rw [List.getElem?_map, List.getElem?_map]
  by_cases h : i < n
  · rw [List.getElem?_range h, List.getElem?_eq_getElem (by omega), Option.map_some, Option.map_some, List.getD_eq_getElem?_getD, List.getElem?_eq_getElem (by omega)]
    rfl
  · rw [List.getElem?_eq_none (by simpa using h), List.getElem?_eq_none (by omega)]
    rfl
def purP (inc cost : List Int) (i : Nat) : Int := sumN (fun k => inc.getD k 0) (i + 1) - sumN (fun k => cost.getD k 0) (i + 1)
theorem paid_pur {inc cost : List Int} {n : Nat} (hn : n ≤ 5) (hi : inc.length = n) (hc : cost.length = n) (bi : ∀ i, 0 ≤ inc.getD i 0 ∧ inc.getD i 0 ≤ 100000) (bc : ∀ i, 0 ≤ cost.getD i 0 ∧ cost.getD i 0 ≤ 100000) (x : Bool) {e : Int} (he : 0 ≤ e ∧ e ≤ 500000) :
    paidP (pgx inc n x e) (pbs cost n) ↔ ∀ j, j < n → 0 ≤ purP inc cost j + if x then e else 0 := by
  have h1 := fun (S : Nat) (hS : S < 2 ^ n) => spM_pur hn hi hc bi bc he x (S := S) (by
    have := Nat.pow_le_pow_right (n := 2) (by omega) hn
    omega)
  have h2 := purM_all (inc := fun i => inc.getD i 0) (cost := fun i => cost.getD i 0) (e := if x then e else 0) (n := n) fun i _ => (bc i).1
  unfold paidP
  rw [usL_use hn, amL_pgx hi, amL_pbs hc, pbs_len]
  constructor
  · intro h j hj
    have := h2.1 (fun S hS => by rw [← h1 S hS]; exact h S hS) j hj
    unfold purP
    omega
  · intro h S hS
    rw [h1 S hS]
    refine h2.2 (fun j hj => ?_) S hS
    have := h j hj
    unfold purP at this
    omega
theorem book_pur {inc cost : List Int} {n : Nat} (hn : n ≤ 5) (bi : ∀ i, 0 ≤ inc.getD i 0 ∧ inc.getD i 0 ≤ 100000) (bc : ∀ i, 0 ≤ cost.getD i 0 ∧ cost.getD i 0 ≤ 100000) (x : Bool) {e : Int} (he : 0 ≤ e ∧ e ≤ 500000) : bookB (pgx inc n x e) (pbs cost n) = true := by
  unfold bookB
  have hl : (pgx inc n x e).length ≤ 10 := by
    unfold pgx
    rw [List.length_append, pgs_len]
    cases x <;> simp <;> omega
  have h1 : (pgx inc n x e).any (bad3 255) = false := List.any_eq_false.2 fun y hy => by
    have key : bad3 255 y = false := by
      unfold pgx at hy
      rw [List.mem_append] at hy
      rcases hy with hy | hy
      · unfold pgs at hy
        rw [List.mem_map] at hy
        obtain ⟨k, hk, rfl⟩ := hy
        have hk : k < n := by simpa using hk
        have := bi k
        unfold bad3
        simp only [Bool.not_eq_false', Bool.and_eq_true, decide_eq_true_eq]
        omega
      · cases x with
        | false => simp at hy
        | true =>
          simp only [if_true, List.mem_singleton] at hy
          subst hy
          unfold bad3
          simp only [Bool.not_eq_false', Bool.and_eq_true, decide_eq_true_eq]
          omega
    rw [key]
    simp
  have h2 : (pbs cost n).any (bad3 7) = false := List.any_eq_false.2 fun y hy => by
    have key : bad3 7 y = false := by
      unfold pbs at hy
      rw [List.mem_map] at hy
      obtain ⟨k, hk, rfl⟩ := hy
      have hk : k < n := by simpa using hk
      have := bc k
      unfold bad3
      simp only [Bool.not_eq_false', Bool.and_eq_true, decide_eq_true_eq]
      omega
    rw [key]
    simp
  rw [h1, h2, pbs_len, decide_eq_true hl, decide_eq_true (show n ≤ 8 by omega)]
  rfl
theorem year_pur {inc cost : List Int} {n : Nat} (hn : n ≤ 5) (bi : ∀ i, 0 ≤ inc.getD i 0 ∧ inc.getD i 0 ≤ 100000) (bc : ∀ i, 0 ≤ cost.getD i 0 ∧ cost.getD i 0 ≤ 100000) : yearB 0 0 (pms inc cost n) = true := by
  unfold yearB
  have h1 : (pms inc cost n).any badM = false := List.any_eq_false.2 fun y hy => by
    have key : badM y = false := by
      unfold pms at hy
      rw [List.mem_map] at hy
      obtain ⟨k, hk, rfl⟩ := hy
      have := bi k
      have := bc k
      unfold badM amtB
      simp only [Bool.not_eq_false', Bool.and_eq_true, decide_eq_true_eq]
      omega
    rw [key]
    simp
  rw [h1, pms_len, decide_eq_true (show n ≤ 60 by omega)]
  rfl
end Go.Proofs.YtnbogcpnpcbjgaaGreatDoor

