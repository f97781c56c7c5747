/- Parts of a proof: the symbolic walk and what it shows of single functions. -/
import Derived.Test.YtgpglmcbopfddaaK1
import Derived.Test.YtgpglmcbopfddaaX3
import Derived.Test.YtgpglmcbopfddaaK2
set_option linter.all false
namespace Go.Proofs.Ytgpglmcbopfddaa
open Go.RowKit Go.SX
set_option maxRecDepth 10000
set_option maxHeartbeats 4000000
set_option linter.unusedSimpArgs false
set_option linter.unusedVariables false
abbrev Pg := Int × Int × Int
def pgc (p : Pg) : List Value := [I p.1, I p.2.1, I p.2.2]
theorem pgc_len (p : Pg) : (pgc p).length = 3 := rfl
def keptN (hands many : Int) (ts : List Int) : Int := if (!inB hands 1 10 || ts.any fun n => !inB n (-200) 400) then 1 else if many > 200 then 2 else 0
theorem kept_fn (w : World) (hands many : Int) (v : Value) (ts : List Int) (hs : Sl w v 1 (ints ts)) (hb : ts.length ≤ 1099511627776) :
    SX.Fn Try.prog 64 [I hands, I many, v] w (fun _ => False) fun r N => r = I (keptN hands many ts) := by
  obtain ⟨a, n, c, rfl⟩ := hs.shape
  unfold keptN
  cases c1 : inB hands 1 10 with
  | false =>
    refine walk [] [] (detA_ok _ _) Try.func64 rfl Try.ntmps64 res64 (by kernel_rfl) no_facts ?_
    simp (config := { maxSteps := 4000000 }) only [↓sx0, ↓sx1, ↓sx2, ↓sx3, ↓sx4, ↓sx5, ↓sx6, sx0, sx1, sx2, sx3, sx4, sx5, sx6, tf64, ev3_hold, sxo, sxc, sxp, sxq, sxr, sxs, sxl, sxm, simprocAttr, detA_eq, c1]
  | true =>
    cases c2 : ts.any fun n => !inB n (-200) 400 with
    | true =>
      refine walk [] [] (detA_ok _ _) Try.func64 rfl Try.ntmps64 res64 (by kernel_rfl) no_facts ?_
      simp (config := { maxSteps := 4000000 }) only [↓sx0, ↓sx1, ↓sx2, ↓sx3, ↓sx4, ↓sx5, ↓sx6, sx0, sx1, sx2, sx3, sx4, sx5, sx6, tf64, ev3_hold, sxo, sxc, sxp, sxq, sxr, sxs, sxl, sxm, simprocAttr, detA_eq, c1]
      refine CallOb.pureH (fun w' hp' => containsI_fn w' _ ts 71 [] _ (hs.hp (fun _ _ => id) hp') hb (tells_tick w')) ?_
      rintro r N rfl
      rw [c2]
      refine ⟨?_⟩
      simp (config := { maxSteps := 4000000 }) only [↓sx0, ↓sx1, ↓sx2, ↓sx3, ↓sx4, ↓sx5, ↓sx6, sx0, sx1, sx2, sx3, sx4, sx5, sx6, tf64, ev3_hold, sxo, sxc, sxp, sxq, sxr, sxs, sxl, sxm, simprocAttr]
    | false =>
      by_cases c3 : many > 200
      · have e3 : (many > 200) = True := eq_true c3
        refine walk [] [] (detA_ok _ _) Try.func64 rfl Try.ntmps64 res64 (by kernel_rfl) no_facts ?_
        simp (config := { maxSteps := 4000000 }) only [↓sx0, ↓sx1, ↓sx2, ↓sx3, ↓sx4, ↓sx5, ↓sx6, sx0, sx1, sx2, sx3, sx4, sx5, sx6, tf64, ev3_hold, sxo, sxc, sxp, sxq, sxr, sxs, sxl, sxm, simprocAttr, detA_eq, c1]
        refine CallOb.pureH (fun w' hp' => containsI_fn w' _ ts 71 [] _ (hs.hp (fun _ _ => id) hp') hb (tells_tick w')) ?_
        rintro r N rfl
        rw [c2]
        refine ⟨?_⟩
        simp (config := { maxSteps := 4000000 }) only [↓sx0, ↓sx1, ↓sx2, ↓sx3, ↓sx4, ↓sx5, ↓sx6, sx0, sx1, sx2, sx3, sx4, sx5, sx6, tf64, ev3_hold, sxo, sxc, sxp, sxq, sxr, sxs, sxl, sxm, simprocAttr, e3]
      · have e3 : (many > 200) = False := eq_false c3
        refine walk [] [] (detA_ok _ _) Try.func64 rfl Try.ntmps64 res64 (by kernel_rfl) no_facts ?_
        simp (config := { maxSteps := 4000000 }) only [↓sx0, ↓sx1, ↓sx2, ↓sx3, ↓sx4, ↓sx5, ↓sx6, sx0, sx1, sx2, sx3, sx4, sx5, sx6, tf64, ev3_hold, sxo, sxc, sxp, sxq, sxr, sxs, sxl, sxm, simprocAttr, detA_eq, c1]
        refine CallOb.pureH (fun w' hp' => containsI_fn w' _ ts 71 [] _ (hs.hp (fun _ _ => id) hp') hb (tells_tick w')) ?_
        rintro r N rfl
        rw [c2]
        refine ⟨?_⟩
        simp (config := { maxSteps := 4000000 }) only [↓sx0, ↓sx1, ↓sx2, ↓sx3, ↓sx4, ↓sx5, ↓sx6, sx0, sx1, sx2, sx3, sx4, sx5, sx6, tf64, ev3_hold, sxo, sxc, sxp, sxq, sxr, sxs, sxl, sxm, simprocAttr, e3]
def pgB (hands last : Int) (p : Pg) : Bool := inB p.2.1 0 (hands - 1) && inB p.2.2 1 3 && inB p.1 (-200) 400 && decide (last ≤ p.1)
def pgOk (hands : Int) : Int → List Pg → Bool
  | _, [] => true
  | last, p :: r => pgB hands last p && pgOk hands p.1 r
def pagedN (hands tick : Int) (l : List Pg) : Int := if keptN hands l.length [tick] ≠ 0 then keptN hands l.length [tick] else if pgOk hands (-200) l then 0 else 72
theorem keptN_zero {hands many : Int} {ts : List Int} (h : keptN hands many ts = 0) : 1 ≤ hands ∧ hands ≤ 10 ∧ many ≤ 200 ∧ ∀ t ∈ ts, -200 ≤ t ∧ t ≤ 400 := by
  unfold keptN at h
  split at h
  · omega
  · rename_i h1
    split at h
    · omega
    · rename_i h2
      simp only [Bool.or_eq_true, Bool.not_eq_true', List.any_eq_true, not_or, not_exists, not_and, Bool.not_eq_false] at h1
      have h3 := (inB_iff _ _ _).1 h1.1
      exact ⟨h3.1, h3.2, by omega, fun t ht => (inB_iff _ _ _).1 (h1.2 t ht)⟩
theorem paged_fn (w : World) (hands tick : Int) (v : Value) (l : List Pg) (hs : Sl w v 3 (cat pgc l)) (hb : l.length ≤ 1099511627776) :
    SX.Fn Try.prog 46 [I hands, v, I tick] w (fun _ => False) fun r N => r = I (pagedN hands tick l) := by
  obtain ⟨a, n, c, rfl⟩ := hs.shape
  have hn := hs.le pgc_len (by omega)
  have hr := hs.rd0
  by_cases h0 : keptN hands n [tick] = 0
  case neg =>
    have e0 : (keptN hands n [tick] = 0) = False := eq_false h0
    have hq : pagedN hands tick l = keptN hands n [tick] := by unfold pagedN; rw [hn, if_pos h0]
    rw [hq]
    refine walk [] [] (detA_ok _ _) Try.func46 rfl Try.ntmps46 res46 (by kernel_rfl) no_facts ?_
    simp (config := { maxSteps := 4000000 }) only [↓sx0, ↓sx1, ↓sx2, ↓sx3, ↓sx4, ↓sx5, ↓sx6, sx0, sx1, sx2, sx3, sx4, sx5, sx6, tf46, ev3_hold, sxo, sxc, sxp, sxq, sxr, sxs, sxl, sxm, simprocAttr, detA_eq]
    intro b
    refine CallOb.pureH (fun w' hp' => kept_fn w' hands n _ [tick] (row_hp List.mem_cons_self hp') (by simp)) ?_
    rintro r N rfl
    refine ⟨?_⟩
    simp (config := { maxSteps := 4000000 }) only [↓sx0, ↓sx1, ↓sx2, ↓sx3, ↓sx4, ↓sx5, ↓sx6, sx0, sx1, sx2, sx3, sx4, sx5, sx6, tf46, ev3_hold, sxo, sxc, sxp, sxq, sxr, sxs, sxl, sxm, simprocAttr, e0]
  have e0 : (keptN hands n [tick] = 0) = True := eq_true h0
  obtain ⟨h1, h2, h3, h4⟩ := keptN_zero h0
  have hq : pagedN hands tick l = if pgOk hands (-200) l then 0 else 72 := by unfold pagedN; rw [hn, if_neg (by simp [h0])]
  rw [hq]
  have e8 : wr (hands - 1) = hands - 1 := wrap_id (by omega)
  refine walk [] [] (detA_ok _ _) Try.func46 rfl Try.ntmps46 res46 (by kernel_rfl) no_facts ?_
  simp (config := { maxSteps := 4000000 }) only [↓sx0, ↓sx1, ↓sx2, ↓sx3, ↓sx4, ↓sx5, ↓sx6, sx0, sx1, sx2, sx3, sx4, sx5, sx6, tf46, ev3_hold, sxo, sxc, sxp, sxq, sxr, sxs, sxl, sxm, simprocAttr, detA_eq]
  intro b
  refine CallOb.pureH (fun w' hp' => kept_fn w' hands n _ [tick] (row_hp List.mem_cons_self hp') (by simp)) ?_
  rintro r N rfl
  refine ⟨?_⟩
  simp (config := { maxSteps := 4000000 }) only [↓sx0, ↓sx1, ↓sx2, ↓sx3, ↓sx4, ↓sx5, ↓sx6, sx0, sx1, sx2, sx3, sx4, sx5, sx6, tf46, ev3_hold, sxo, sxc, sxp, sxq, sxr, sxs, sxl, sxm, simprocAttr, e0]
  refine loop_constH [] (HImp.nil _ _) [(6, 6), (8, 8), (10, 10), (22, 52)] (fun x : Nat × Int => [(6, I 0), (8, I x.2), (22, I x.1)]) (fun x H1 => H1 = [] ∧ x.1 ≤ n ∧ pgOk hands (-200) l = pgOk hands x.2 (l.drop x.1)) (fun x => n - x.1) (0, -200) ?_ ⟨rfl, Nat.zero_le _, rfl⟩ ?_
  · simp (config := { maxSteps := 4000000 }) only [↓sx0, ↓sx1, ↓sx2, ↓sx3, ↓sx4, ↓sx5, ↓sx6, sx0, sx1, sx2, sx3, sx4, sx5, sx6, tf46, ev3_hold, sxo, sxc, sxp, sxq, sxr, sxs, sxl, sxm, simprocAttr]
    try simp
  rintro ⟨k, last⟩ H1 g1 ⟨rfl, hk, ht⟩
  by_cases hkn : k = n
  · have e7 : ((k : Int) < (n : Int)) = False := eq_false (by omega)
    rw [ht, List.drop_of_length_le (by simp only; omega)]
    refine ⟨?_⟩
    simp (config := { maxSteps := 4000000 }) only [↓sx0, ↓sx1, ↓sx2, ↓sx3, ↓sx4, ↓sx5, ↓sx6, sx0, sx1, sx2, sx3, sx4, sx5, sx6, tf46, ev3_hold, sxo, sxc, sxp, sxq, sxr, sxs, sxl, sxm, simprocAttr, e7]
    try rfl
  have e7 : ((k : Int) < (n : Int)) = True := eq_true (by simp only at hk; omega)
  have hkl : k < l.length := by simp only at hk; omega
  have hu := List.getElem?_eq_getElem hkl
  simp only at ht hk
  rw [List.drop_eq_getElem_cons hkl] at ht
  have e2 : wr (k + 1) = ((k + 1 : Nat) : Int) := (wrap_id (by omega)).trans (by omega)
  generalize l[k] = p at hu ht
  obtain ⟨pt, ph, pk⟩ := p
  simp only [pgOk, pgB] at ht
  rw [ht]
  cases c1 : inB ph 0 (hands - 1) with
  | false =>
    refine ⟨?_⟩
    simp (config := { maxSteps := 4000000 }) only [↓sx0, ↓sx1, ↓sx2, ↓sx3, ↓sx4, ↓sx5, ↓sx6, sx0, sx1, sx2, sx3, sx4, sx5, sx6, tf46, ev3_hold, sxo, sxc, sxp, sxq, sxr, sxs, sxl, sxm, simprocAttr, e7]
    refine amid (at_n (hr _) pgc_len (by omega) hu fun ad => ?_)
    unfold pgc
    simp (config := { maxSteps := 4000000 }) only [↓sx0, ↓sx1, ↓sx2, ↓sx3, ↓sx4, ↓sx5, ↓sx6, sx0, sx1, sx2, sx3, sx4, sx5, sx6, tf46, ev3_hold, sxo, sxc, sxp, sxq, sxr, sxs, sxl, sxm, simprocAttr, e8, detA_eq, c1]
  | true =>
    cases c2 : inB pk 1 3 with
    | false =>
      refine ⟨?_⟩
      simp (config := { maxSteps := 4000000 }) only [↓sx0, ↓sx1, ↓sx2, ↓sx3, ↓sx4, ↓sx5, ↓sx6, sx0, sx1, sx2, sx3, sx4, sx5, sx6, tf46, ev3_hold, sxo, sxc, sxp, sxq, sxr, sxs, sxl, sxm, simprocAttr, e7]
      refine amid (at_n (hr _) pgc_len (by omega) hu fun ad => ?_)
      unfold pgc
      simp (config := { maxSteps := 4000000 }) only [↓sx0, ↓sx1, ↓sx2, ↓sx3, ↓sx4, ↓sx5, ↓sx6, sx0, sx1, sx2, sx3, sx4, sx5, sx6, tf46, ev3_hold, sxo, sxc, sxp, sxq, sxr, sxs, sxl, sxm, simprocAttr, e8, detA_eq, c1, c2]
    | true =>
      cases c3 : inB pt (-200) 400 with
      | false =>
        refine ⟨?_⟩
        simp (config := { maxSteps := 4000000 }) only [↓sx0, ↓sx1, ↓sx2, ↓sx3, ↓sx4, ↓sx5, ↓sx6, sx0, sx1, sx2, sx3, sx4, sx5, sx6, tf46, ev3_hold, sxo, sxc, sxp, sxq, sxr, sxs, sxl, sxm, simprocAttr, e7]
        refine amid (at_n (hr _) pgc_len (by omega) hu fun ad => ?_)
        unfold pgc
        simp (config := { maxSteps := 4000000 }) only [↓sx0, ↓sx1, ↓sx2, ↓sx3, ↓sx4, ↓sx5, ↓sx6, sx0, sx1, sx2, sx3, sx4, sx5, sx6, tf46, ev3_hold, sxo, sxc, sxp, sxq, sxr, sxs, sxl, sxm, simprocAttr, e8, detA_eq, c1, c2, c3]
      | true =>
        by_cases c4 : pt < last
        · have e4 : (pt < last) = True := eq_true c4
          have e5 : decide (last ≤ pt) = false := decide_eq_false (by omega)
          rw [e5]
          refine ⟨?_⟩
          simp (config := { maxSteps := 4000000 }) only [↓sx0, ↓sx1, ↓sx2, ↓sx3, ↓sx4, ↓sx5, ↓sx6, sx0, sx1, sx2, sx3, sx4, sx5, sx6, tf46, ev3_hold, sxo, sxc, sxp, sxq, sxr, sxs, sxl, sxm, simprocAttr, e7]
          refine amid (at_n (hr _) pgc_len (by omega) hu fun ad => ?_)
          unfold pgc
          simp (config := { maxSteps := 4000000 }) only [↓sx0, ↓sx1, ↓sx2, ↓sx3, ↓sx4, ↓sx5, ↓sx6, sx0, sx1, sx2, sx3, sx4, sx5, sx6, tf46, ev3_hold, sxo, sxc, sxp, sxq, sxr, sxs, sxl, sxm, simprocAttr, e8, detA_eq, c1, c2, c3, e4]
        · have e4 : (pt < last) = False := eq_false c4
          have e5 : decide (last ≤ pt) = true := decide_eq_true (by omega)
          rw [e5]
          refine ⟨?_⟩
          simp (config := { maxSteps := 4000000 }) only [↓sx0, ↓sx1, ↓sx2, ↓sx3, ↓sx4, ↓sx5, ↓sx6, sx0, sx1, sx2, sx3, sx4, sx5, sx6, tf46, ev3_hold, sxo, sxc, sxp, sxq, sxr, sxs, sxl, sxm, simprocAttr, e7]
          refine amid (at_n (hr _) pgc_len (by omega) hu fun ad => ?_)
          unfold pgc
          simp (config := { maxSteps := 4000000 }) only [↓sx0, ↓sx1, ↓sx2, ↓sx3, ↓sx4, ↓sx5, ↓sx6, sx0, sx1, sx2, sx3, sx4, sx5, sx6, tf46, ev3_hold, sxo, sxc, sxp, sxq, sxr, sxs, sxl, sxm, simprocAttr, e8, detA_eq, c1, c2, c3, e4, e2]
          exact ⟨(k + 1, pt), _, ⟨rfl, rfl⟩, HImp.refl _ _, ⟨rfl, by simp only; omega, rfl⟩, by simp only; omega⟩
end Go.Proofs.Ytgpglmcbopfddaa

namespace Go.Proofs.Ytgpglmcbopfddaa
open Go.RowKit Go.SX
set_option maxRecDepth 10000
set_option maxHeartbeats 4000000
set_option linter.unusedSimpArgs false
set_option linter.unusedVariables false
abbrev Pr := Bool × Int × Int
def prc (p : Pr) : List Value := [.bool p.1, I p.2.1, I p.2.2]
theorem prc_len (p : Pr) : (prc p).length = 3 := rfl
def pgAns (k : Int) : Int := if k = 2 then 1 else 2
def pgStep (s : List Pr) (p : Pg) : List Pr :=
  if p.2.2 = 1 then s.set p.2.1.toNat (true, p.1, 0) else
  match s[p.2.1.toNat]? with
  | some x => if x.1 = true then s.set p.2.1.toNat (x.1, x.2.1, pgAns p.2.2) else s
  | none => s
def pgRun (tick : Int) : List Pg → List Pr → List Pr
  | [], s => s
  | p :: r, s => if p.1 > tick then s else pgRun tick r (pgStep s p)
theorem pgStep_len (s : List Pr) (p : Pg) : (pgStep s p).length = s.length := by
  unfold pgStep
  split
  · rw [List.length_set]
  · split
    · split
      · rw [List.length_set]
      · rfl
    · rfl
theorem pgRun_len (tick : Int) : ∀ (l : List Pg) (s : List Pr), (pgRun tick l s).length = s.length
  | [], _ => rfl
  | p :: r, s => by
    unfold pgRun
    split
    · rfl
    · rw [pgRun_len tick r, pgStep_len]
def pgNone (hands : Int) : List Pr := List.replicate hands.toNat (false, 0, 0)
def pgIn (hands : Int) (p : Pg) : Prop := 0 ≤ p.2.1 ∧ p.2.1 < hands ∧ 1 ≤ p.2.2 ∧ p.2.2 ≤ 3
theorem pgOk_in {hands : Int} : ∀ {l : List Pg} {last : Int}, pgOk hands last l = true → ∀ p ∈ l, pgIn hands p
  | [], _, _, p, hp => by cases hp
  | x :: l, last, h, p, hp => by
    simp only [pgOk, pgB, Bool.and_eq_true, inB_iff, decide_eq_true_eq] at h
    rcases List.mem_cons.1 hp with rfl | hp
    · unfold pgIn
      omega
    · exact pgOk_in h.2 p hp
theorem mapT : Try.prog.underlying 121 = some (.map 3 3) := by kernel_rfl
theorem intTy : Try.prog.underlying 3 = some (.int .i64) := by kernel_rfl
theorem row_f {α : Type} {w0 : Base} {H : List HO} {ad : Addr} {len cap e n k o : Nat} {f : α → List Value} {l : List α} {u : α} {x : Value} {K : SV → Prop} (h : HO.row (.slice (some ad) len cap) e n (cat f l) ∈ H) (hf : ∀ a, (f a).length = n) (hu : l[k]? = some u) (hx : (f u)[o]? = some x)
    (hK : K (.v x)) : hold (LdOb w0 H ((ad.add (k * n)).add o) none K) ⟨0⟩ := by
  have ho : o < n := by have := (List.getElem?_eq_some_iff.1 hx).1; rw [hf] at this; exact this
  rw [add_add]
  exact ld1 (row_rds h) ((cat_get hf hu ho).trans hx) hK
theorem pagers_fn (w : World) (hands tick : Int) (v : Value) (l : List Pg) (hs : Sl w v 3 (cat pgc l)) (hb : l.length ≤ 1099511627776) (hh : 1 ≤ hands ∧ hands ≤ 10) (hin : ∀ p ∈ l, pgIn hands p) :
    SX.Fn Try.prog 47 [I hands, v, I tick] w (fun _ => False) fun r N => Got r 104 3 prc (pgRun tick l (pgNone hands)) N := by
  obtain ⟨a, n, c, rfl⟩ := hs.shape
  have hn := hs.le pgc_len (by omega)
  have hr := hs.rd0
  have hz : zerosL hands.toNat [.bool false, I 0, I 0] = cat prc (pgNone hands) := zeros_cat prc (false, 0, 0) _
  have hlz : (pgNone hands).length = hands.toNat := List.length_replicate
  refine walk [] [] (det0_ok _ _) Try.func47 rfl Try.ntmps47 res47 (by kernel_rfl) no_facts ?_
  simp (config := { maxSteps := 4000000 }) only [↓sx0, ↓sx1, ↓sx2, ↓sx3, ↓sx4, ↓sx5, ↓sx6, sx0, sx1, sx2, sx3, sx4, sx5, sx6, tf47, ev3_hold, sxo, sxc, sxp, sxq, sxr, sxs, sxl, sxm, simprocAttr]
  refine ⟨by omega, by omega, by omega, ?_⟩
  intro b
  rw [hz]
  refine loop_constH [.row (.slice (some ⟨b, 0, none⟩) hands.toNat hands.toNat) 104 3 (cat prc (pgNone hands))] (HImp.refl _ _) [(9, 10), (15, 49)] (fun x : Nat × List Pr => [(15, I x.1)])
    (fun x H1 => (x.1 ≤ n ∧ x.2.length = hands.toNat ∧ pgRun tick l (pgNone hands) = pgRun tick (l.drop x.1) x.2) ∧ H1 = [.row (.slice (some ⟨b, 0, none⟩) hands.toNat hands.toNat) 104 3 (cat prc x.2)]) (fun x => n - x.1) (0, pgNone hands) ?_ ⟨⟨Nat.zero_le _, hlz, rfl⟩, rfl⟩ ?_
  · simp (config := { maxSteps := 4000000 }) only [↓sx0, ↓sx1, ↓sx2, ↓sx3, ↓sx4, ↓sx5, ↓sx6, sx0, sx1, sx2, sx3, sx4, sx5, sx6, tf47, ev3_hold, sxo, sxc, sxp, sxq, sxr, sxs, sxl, sxm, simprocAttr]
    try simp
  rintro ⟨k, s⟩ H1 g1 ⟨⟨hk, hsl, ht⟩, rfl⟩
  simp only at hk hsl ht
  by_cases hkn : k = n
  · have e7 : ((k : Int) < (n : Int)) = False := eq_false (by omega)
    rw [List.drop_of_length_le (by omega), pgRun] at ht
    refine ⟨?_⟩
    simp (config := { maxSteps := 4000000 }) only [↓sx0, ↓sx1, ↓sx2, ↓sx3, ↓sx4, ↓sx5, ↓sx6, sx0, sx1, sx2, sx3, sx4, sx5, sx6, tf47, ev3_hold, sxo, sxc, sxp, sxq, sxr, sxs, sxl, sxm, simprocAttr, e7]
    rw [ht]
    exact Got.row hsl List.mem_cons_self (fun h => by cases h)
  have e7 : ((k : Int) < (n : Int)) = True := eq_true (by omega)
  have hkl : k < l.length := by omega
  have hu := List.getElem?_eq_getElem hkl
  have hpin := hin _ (List.getElem_mem hkl)
  rw [List.drop_eq_getElem_cons hkl] at ht
  have e2 : wr (k + 1) = ((k + 1 : Nat) : Int) := (wrap_id (by omega)).trans (by omega)
  generalize l[k] = p at hu ht hpin
  obtain ⟨pt, ph, pk⟩ := p
  simp only [pgIn] at hpin
  simp only [pgRun] at ht
  by_cases c1 : pt > tick
  · have e1 : (pt > tick) = True := eq_true c1
    rw [if_pos c1] at ht
    refine ⟨?_⟩
    simp (config := { maxSteps := 4000000 }) only [↓sx0, ↓sx1, ↓sx2, ↓sx3, ↓sx4, ↓sx5, ↓sx6, sx0, sx1, sx2, sx3, sx4, sx5, sx6, tf47, ev3_hold, sxo, sxc, sxp, sxq, sxr, sxs, sxl, sxm, simprocAttr, e7]
    refine amid (at_n (hr _) pgc_len (by omega) hu fun ad => ?_)
    unfold pgc
    simp (config := { maxSteps := 4000000 }) only [↓sx0, ↓sx1, ↓sx2, ↓sx3, ↓sx4, ↓sx5, ↓sx6, sx0, sx1, sx2, sx3, sx4, sx5, sx6, tf47, ev3_hold, sxo, sxc, sxp, sxq, sxr, sxs, sxl, sxm, simprocAttr, e1]
    rw [ht]
    exact Got.row hsl List.mem_cons_self (fun h => by cases h)
  have e1 : (pt > tick) = False := eq_false c1
  rw [if_neg c1] at ht
  obtain ⟨h, rfl⟩ : ∃ h : Nat, ph = h := ⟨ph.toNat, by omega⟩
  have hhl : h < s.length := by omega
  have hx := List.getElem?_eq_getElem hhl
  obtain ⟨x, hxe⟩ : ∃ x, s[h] = x := ⟨_, rfl⟩
  rw [hxe] at hx
  by_cases c2 : pk = 1
  · subst c2
    have hst : pgStep s (pt, (h : Int), 1) = s.set h (true, pt, 0) := rfl
    rw [hst] at ht
    have hprc : prc (true, pt, 0) = [.bool true, I pt, I 0] := rfl
    refine ⟨?_⟩
    simp (config := { maxSteps := 4000000 }) only [↓sx0, ↓sx1, ↓sx2, ↓sx3, ↓sx4, ↓sx5, ↓sx6, sx0, sx1, sx2, sx3, sx4, sx5, sx6, tf47, ev3_hold, sxo, sxc, sxp, sxq, sxr, sxs, sxl, sxm, simprocAttr, e7]
    refine amid (at_n (hr _) pgc_len (by omega) hu fun ad => ?_)
    unfold pgc
    simp (config := { maxSteps := 4000000 }) only [↓sx0, ↓sx1, ↓sx2, ↓sx3, ↓sx4, ↓sx5, ↓sx6, sx0, sx1, sx2, sx3, sx4, sx5, sx6, tf47, ev3_hold, sxo, sxc, sxp, sxq, sxr, sxs, sxl, sxm, simprocAttr, e1]
    refine ⟨by omega, by omega, _, rfl, ?_⟩
    rw [← hprc]
    refine wr_at (A := []) rfl prc_len hsl hhl ?_
    simp (config := { maxSteps := 4000000 }) only [↓sx0, ↓sx1, ↓sx2, ↓sx3, ↓sx4, ↓sx5, ↓sx6, sx0, sx1, sx2, sx3, sx4, sx5, sx6, tf47, ev3_hold, sxo, sxc, sxp, sxq, sxr, sxs, sxl, sxm, simprocAttr, e2]
    exact ⟨(k + 1, s.set h (true, pt, 0)), _, rfl, HImp.refl _ _, ⟨⟨by simp only; omega, by simp only [List.length_set]; exact hsl, ht⟩, rfl⟩, by simp only; omega⟩
  have e3 : (pk = 1) = False := eq_false c2
  obtain ⟨xc, xl, xa⟩ := x
  cases xc with
  | false =>
    have hst : pgStep s (pt, (h : Int), pk) = s := by simp [pgStep, c2, hx]
    rw [hst] at ht
    refine ⟨?_⟩
    simp (config := { maxSteps := 4000000 }) only [↓sx0, ↓sx1, ↓sx2, ↓sx3, ↓sx4, ↓sx5, ↓sx6, sx0, sx1, sx2, sx3, sx4, sx5, sx6, tf47, ev3_hold, sxo, sxc, sxp, sxq, sxr, sxs, sxl, sxm, simprocAttr, e7]
    refine amid (at_n (hr _) pgc_len (by omega) hu fun ad => ?_)
    unfold pgc
    simp (config := { maxSteps := 4000000 }) only [↓sx0, ↓sx1, ↓sx2, ↓sx3, ↓sx4, ↓sx5, ↓sx6, sx0, sx1, sx2, sx3, sx4, sx5, sx6, tf47, ev3_hold, sxo, sxc, sxp, sxq, sxr, sxs, sxl, sxm, simprocAttr, e1, e3]
    refine ⟨by omega, by omega, _, rfl, ?_⟩
    refine row_f (o := 0) List.mem_cons_self prc_len hx rfl ?_
    simp (config := { maxSteps := 4000000 }) only [↓sx0, ↓sx1, ↓sx2, ↓sx3, ↓sx4, ↓sx5, ↓sx6, sx0, sx1, sx2, sx3, sx4, sx5, sx6, tf47, ev3_hold, sxo, sxc, sxp, sxq, sxr, sxs, sxl, sxm, simprocAttr, e2]
    exact ⟨(k + 1, s), _, rfl, HImp.refl _ _, ⟨⟨by simp only; omega, hsl, ht⟩, rfl⟩, by simp only; omega⟩
  | true =>
    have hst : pgStep s (pt, (h : Int), pk) = s.set h (true, xl, pgAns pk) := by simp [pgStep, c2, hx]
    rw [hst] at ht
    refine ⟨?_⟩
    simp (config := { maxSteps := 4000000 }) only [↓sx0, ↓sx1, ↓sx2, ↓sx3, ↓sx4, ↓sx5, ↓sx6, sx0, sx1, sx2, sx3, sx4, sx5, sx6, tf47, ev3_hold, sxo, sxc, sxp, sxq, sxr, sxs, sxl, sxm, simprocAttr, e7]
    refine amid (at_n (hr _) pgc_len (by omega) hu fun ad => ?_)
    unfold pgc
    simp (config := { maxSteps := 4000000 }) only [↓sx0, ↓sx1, ↓sx2, ↓sx3, ↓sx4, ↓sx5, ↓sx6, sx0, sx1, sx2, sx3, sx4, sx5, sx6, tf47, ev3_hold, sxo, sxc, sxp, sxq, sxr, sxs, sxl, sxm, simprocAttr, e1, e3]
    refine ⟨by omega, by omega, _, rfl, ?_⟩
    refine row_f (o := 0) List.mem_cons_self prc_len hx rfl ?_
    simp (config := { maxSteps := 4000000 }) only [↓sx0, ↓sx1, ↓sx2, ↓sx3, ↓sx4, ↓sx5, ↓sx6, sx0, sx1, sx2, sx3, sx4, sx5, sx6, tf47, ev3_hold, sxo, sxc, sxp, sxq, sxr, sxs, sxl, sxm, simprocAttr]
    intro bm
    refine ins_new (A := []) mapT intTy (by simp [MapKept.IsKey]) rfl rfl ?_
    simp (config := { maxSteps := 4000000 }) only [↓sx0, ↓sx1, ↓sx2, ↓sx3, ↓sx4, ↓sx5, ↓sx6, sx0, sx1, sx2, sx3, sx4, sx5, sx6, tf47, ev3_hold, sxo, sxc, sxp, sxq, sxr, sxs, sxl, sxm, simprocAttr]
    refine ins_new (A := []) mapT intTy (by simp [MapKept.IsKey]) rfl rfl ?_
    simp (config := { maxSteps := 4000000 }) only [↓sx0, ↓sx1, ↓sx2, ↓sx3, ↓sx4, ↓sx5, ↓sx6, sx0, sx1, sx2, sx3, sx4, sx5, sx6, tf47, ev3_hold, sxo, sxc, sxp, sxq, sxr, sxs, sxl, sxm, simprocAttr]
    refine lk_hit (j := if pk = 2 then 0 else 1) (v := I (pgAns pk)) mapT intTy (by simp [MapKept.IsKey]) ?_ List.mem_cons_self ?_
    · rcases (show pk = 2 ∨ pk = 3 by omega) with rfl | rfl <;> rfl
    simp (config := { maxSteps := 4000000 }) only [↓sx0, ↓sx1, ↓sx2, ↓sx3, ↓sx4, ↓sx5, ↓sx6, sx0, sx1, sx2, sx3, sx4, sx5, sx6, tf47, ev3_hold, sxo, sxc, sxp, sxq, sxr, sxs, sxl, sxm, simprocAttr]
    refine wr_f1 (A := [_]) (true, xl, pgAns pk) rfl prc_len hsl hx rfl (by omega) ?_
    simp (config := { maxSteps := 4000000 }) only [↓sx0, ↓sx1, ↓sx2, ↓sx3, ↓sx4, ↓sx5, ↓sx6, sx0, sx1, sx2, sx3, sx4, sx5, sx6, tf47, ev3_hold, sxo, sxc, sxp, sxq, sxr, sxs, sxl, sxm, simprocAttr, e2]
    exact ⟨(k + 1, s.set h (true, xl, pgAns pk)), _, rfl, HImp.tail _ _ _, ⟨⟨by simp only; omega, by simp only [List.length_set]; exact hsl, ht⟩, rfl⟩, by simp only; omega⟩
end Go.Proofs.Ytgpglmcbopfddaa

namespace Go.Proofs.Ytgpglmcbopfddaa
open Go.RowKit Go.SX
set_option maxRecDepth 10000
set_option maxHeartbeats 4000000
set_option linter.unusedSimpArgs false
set_option linter.unusedVariables false
def ansL (hands tick : Int) (l : List Pg) : List Int := (pgRun tick l (pgNone hands)).map (·.2.2)
theorem pagedN_zero {hands tick : Int} {l : List Pg} (h : pagedN hands tick l = 0) : keptN hands l.length [tick] = 0 ∧ pgOk hands (-200) l = true := by
  unfold pagedN at h
  split at h
  · rename_i h1; exact absurd h h1
  · rename_i h1
    refine ⟨by simpa using h1, ?_⟩
    cases hp : pgOk hands (-200) l with
    | true => rfl
    | false => rw [hp] at h; simp at h
theorem answers_fn (w : World) (hands tick : Int) (v : Value) (l : List Pg) (hs : Sl w v 3 (cat pgc l)) (hb : l.length ≤ 1099511627776) :
    SX.Fn Try.prog 27 [I hands, v, I tick] w (fun _ => False) fun r N => ∃ x, r = .tuple #[x, I (pagedN hands tick l)] ∧ Got x 3 1 i1 (if pagedN hands tick l = 0 then ansL hands tick l else []) N := by
  obtain ⟨a, n, c, rfl⟩ := hs.shape
  by_cases h0 : pagedN hands tick l = 0
  case neg =>
    have e0 : (pagedN hands tick l = 0) = False := eq_false h0
    rw [if_neg h0]
    refine walk [] [] (det0_ok _ _) Try.func27 rfl Try.ntmps27 res27 (by kernel_rfl) no_facts ?_
    simp (config := { maxSteps := 4000000 }) only [↓sx0, ↓sx1, ↓sx2, ↓sx3, ↓sx4, ↓sx5, ↓sx6, sx0, sx1, sx2, sx3, sx4, sx5, sx6, tf27, ev3_hold, sxo, sxc, sxp, sxq, sxr, sxs, sxl, sxm, simprocAttr, det0]
    refine CallOb.pureH (fun w' hp' => paged_fn w' hands tick _ l (hs.hp (fun _ _ => id) hp') hb) ?_
    rintro r N rfl
    refine ⟨?_⟩
    simp (config := { maxSteps := 4000000 }) only [↓sx0, ↓sx1, ↓sx2, ↓sx3, ↓sx4, ↓sx5, ↓sx6, sx0, sx1, sx2, sx3, sx4, sx5, sx6, tf27, ev3_hold, sxo, sxc, sxp, sxq, sxr, sxs, sxl, sxm, simprocAttr, e0]
    exact ⟨_, rfl, Got.nil _⟩
  have e0 : (pagedN hands tick l = 0) = True := eq_true h0
  rw [if_pos h0]
  obtain ⟨hk0, hok⟩ := pagedN_zero h0
  obtain ⟨h1, h2, _, _⟩ := keptN_zero hk0
  have hlen : (pgRun tick l (pgNone hands)).length = hands.toNat := by rw [pgRun_len]; exact List.length_replicate
  refine walk [] [] (det0_ok _ _) Try.func27 rfl Try.ntmps27 res27 (by kernel_rfl) no_facts ?_
  simp (config := { maxSteps := 4000000 }) only [↓sx0, ↓sx1, ↓sx2, ↓sx3, ↓sx4, ↓sx5, ↓sx6, sx0, sx1, sx2, sx3, sx4, sx5, sx6, tf27, ev3_hold, sxo, sxc, sxp, sxq, sxr, sxs, sxl, sxm, simprocAttr, det0]
  refine CallOb.pureH (fun w' hp' => paged_fn w' hands tick _ l (hs.hp (fun _ _ => id) hp') hb) ?_
  rintro r N rfl
  refine ⟨?_⟩
  simp (config := { maxSteps := 4000000 }) only [↓sx0, ↓sx1, ↓sx2, ↓sx3, ↓sx4, ↓sx5, ↓sx6, sx0, sx1, sx2, sx3, sx4, sx5, sx6, tf27, ev3_hold, sxo, sxc, sxp, sxq, sxr, sxs, sxl, sxm, simprocAttr, e0, det0]
  refine CallOb.pureH (fun w' hp' => pagers_fn w' hands tick _ l (hs.hp (fun _ _ => id) hp') hb ⟨h1, h2⟩ (pgOk_in hok)) ?_
  rintro r2 N2 ⟨ad, c2, rfl, hne, hrow⟩
  unfold ansL
  generalize pgRun tick l (pgNone hands) = s at hlen hne hrow
  obtain ⟨ad, rfl⟩ : ∃ a, ad = some a := by
    cases ad with
    | none => rw [hne rfl] at hlen; simp at hlen; omega
    | some a => exact ⟨a, rfl⟩
  have hrow : HO.row (.slice (some ad) s.length c2) 104 3 (cat prc s) ∈ N2 := hrow.resolve_left (fun h => by cases h)
  generalize hm : s.length = m at hrow hlen
  refine ⟨?_⟩
  simp (config := { maxSteps := 4000000 }) only [↓sx0, ↓sx1, ↓sx2, ↓sx3, ↓sx4, ↓sx5, ↓sx6, sx0, sx1, sx2, sx3, sx4, sx5, sx6, tf27, ev3_hold, sxo, sxc, sxp, sxq, sxr, sxs, sxl, sxm, simprocAttr]
  refine loop_constH [.row (.slice none 0 0) 3 1 [], .row (.slice (some ad) m c2) 104 3 (cat prc s)] ((HImp.nilRow _ _ _ _).trans (HImp.sub ((List.singleton_sublist.2 (List.mem_append_left _ hrow)).cons_cons _))) [(9, 9), (11, 11), (24, 33)] (fun x : Nat × Option Addr × Nat => [(9, .slice x.2.1 x.1 x.2.2), (24, I x.1)])
    (fun x H1 => (x.1 ≤ m ∧ (x.2.1 = none → x.1 = 0)) ∧ H1 = [.row (.slice x.2.1 x.1 x.2.2) 3 1 (ints ((s.take x.1).map (·.2.2))), .row (.slice (some ad) m c2) 104 3 (cat prc s)]) (fun x => m - x.1) (0, none, 0) ?_ ⟨⟨Nat.zero_le _, fun _ => rfl⟩, rfl⟩ ?_
  · simp (config := { maxSteps := 4000000 }) only [↓sx0, ↓sx1, ↓sx2, ↓sx3, ↓sx4, ↓sx5, ↓sx6, sx0, sx1, sx2, sx3, sx4, sx5, sx6, tf27, ev3_hold, sxo, sxc, sxp, sxq, sxr, sxs, sxl, sxm, simprocAttr]
    try simp
  rintro ⟨k, oa, oc⟩ H1 g1 ⟨⟨hk, ho⟩, rfl⟩
  simp only at hk ho
  by_cases hkn : k = m
  · have e7 : ((k : Int) < (m : Int)) = False := eq_false (by omega)
    refine ⟨?_⟩
    simp (config := { maxSteps := 4000000 }) only [↓sx0, ↓sx1, ↓sx2, ↓sx3, ↓sx4, ↓sx5, ↓sx6, sx0, sx1, sx2, sx3, sx4, sx5, sx6, tf27, ev3_hold, sxo, sxc, sxp, sxq, sxr, sxs, sxl, sxm, simprocAttr, e7]
    rw [List.take_of_length_le (by omega)]
    exact ⟨_, by rw [h0], Got.row (by rw [List.length_map, hm, hkn]) List.mem_cons_self (fun h => by have := ho h; omega)⟩
  have e7 : ((k : Int) < (m : Int)) = True := eq_true (by omega)
  have hkl : k < s.length := by omega
  have hu := List.getElem?_eq_getElem hkl
  have htk : s.take (k + 1) = s.take k ++ [s[k]] := by rw [List.take_add_one, hu]; rfl
  have e2 : wr (k + 1) = ((k + 1 : Nat) : Int) := (wrap_id (by omega)).trans (by omega)
  generalize s[k] = u at hu htk
  have hvk : ((s.take k).map (·.2.2)).length = k := by rw [List.length_map, List.length_take]; omega
  refine ⟨?_⟩
  simp (config := { maxSteps := 4000000 }) only [↓sx0, ↓sx1, ↓sx2, ↓sx3, ↓sx4, ↓sx5, ↓sx6, sx0, sx1, sx2, sx3, sx4, sx5, sx6, tf27, ev3_hold, sxo, sxc, sxp, sxq, sxr, sxs, sxl, sxm, simprocAttr, e7]
  refine amid (at_n (row_rdv (List.mem_cons_of_mem _ List.mem_cons_self) ⟨_, _, _, rfl, by rw [cat_len prc_len, hm], fun h => by cases h⟩) prc_len (by omega) hu fun ad2 => ?_)
  unfold prc
  simp (config := { maxSteps := 4000000 }) only [↓sx0, ↓sx1, ↓sx2, ↓sx3, ↓sx4, ↓sx5, ↓sx6, sx0, sx1, sx2, sx3, sx4, sx5, sx6, tf27, ev3_hold, sxo, sxc, sxp, sxq, sxr, sxs, sxl, sxm, simprocAttr]
  intro b
  refine app_one (l := (s.take k).map (·.2.2)) u.2.2 (HImp.refl _ _) i1_len i1_one (bytes := 8) (by rw [hvk]; omega) ?_
  rintro oa' oc'
  rw [hvk]
  simp (config := { maxSteps := 4000000 }) only [↓sx0, ↓sx1, ↓sx2, ↓sx3, ↓sx4, ↓sx5, ↓sx6, sx0, sx1, sx2, sx3, sx4, sx5, sx6, tf27, ev3_hold, sxo, sxc, sxp, sxq, sxr, sxs, sxl, sxm, simprocAttr, e2]
  refine ⟨(k + 1, some oa', oc'), _, ⟨rfl, rfl⟩, HImp.refl _ _, ⟨⟨by simp only; omega, fun h => by cases h⟩, ?_⟩, by simp only; omega⟩
  simp only [htk, List.map_append, List.map_cons, List.map_nil]
end Go.Proofs.Ytgpglmcbopfddaa

namespace Go.Proofs.Ytgpglmcbopfddaa
open Go.RowKit Go.SX
set_option maxRecDepth 10000
set_option maxHeartbeats 4000000
set_option linter.unusedSimpArgs false
set_option linter.unusedVariables false
theorem same_fn (w : World) (v v' : Value) (l m : List Int) (hs : Sl w v 1 (ints l)) (hs' : Sl w v' 1 (ints m)) (hb : l.length ≤ 1099511627776) : SX.Fn Try.prog 14 [v, v'] w (fun _ => False) fun v N => v = .bool (decide (l = m)) := by
  obtain ⟨a, n, c, rfl⟩ := hs.shape
  obtain ⟨a', n', c', rfl⟩ := hs'.shape
  have hn := hs.le i1_len (by omega)
  have hn' := hs'.le i1_len (by omega)
  have hr := hs.rd0
  have hr' := hs'.rd0
  refine walk [] [] (det0_ok _ _) Try.func14 rfl Try.ntmps14 res14 (by kernel_rfl) no_facts ?_
  by_cases hl : n = n'
  · subst hl
    simp (config := { maxSteps := 4000000 }) only [↓sx0, ↓sx1, ↓sx2, ↓sx3, ↓sx4, ↓sx5, ↓sx6, sx0, sx1, sx2, sx3, sx4, sx5, sx6, tf14, ev3_hold, sxo, sxc, sxp, sxq, sxr, sxs, sxl, sxm, simprocAttr]
    refine loop_const [(4, 5), (11, 25)] (fun k : Nat => [(5, I k)]) (fun k H1 => H1 = [] ∧ k ≤ n ∧ (l = m ↔ l.drop k = m.drop k)) (fun k => n - k) 0 ?_ ⟨rfl, Nat.zero_le _, Iff.rfl⟩ ?_
    · simp (config := { maxSteps := 4000000 }) only [↓sx0, ↓sx1, ↓sx2, ↓sx3, ↓sx4, ↓sx5, ↓sx6, sx0, sx1, sx2, sx3, sx4, sx5, sx6, tf14, ev3_hold, sxo, sxc, sxp, sxq, sxr, sxs, sxl, sxm, simprocAttr]
      try rfl
    · rintro k H1 g ⟨rfl, hk, ht⟩
      have e2 : wr (k + 1) = k + 1 := wrap_id (by omega)
      simp (config := { maxSteps := 4000000 }) only [↓sx0, ↓sx1, ↓sx2, ↓sx3, ↓sx4, ↓sx5, ↓sx6, sx0, sx1, sx2, sx3, sx4, sx5, sx6, tf14, ev3_hold, sxo, sxc, sxp, sxq, sxr, sxs, sxl, sxm, simprocAttr, e2]
      refine ⟨fun h1 => ?_, fun h1 => ?_⟩
      · have hkl : k < l.length := by omega
        have hkm : k < m.length := by omega
        refine at_1 (hr _) i1_len (List.getElem?_eq_getElem hkl) rfl fun ad => ?_
        simp (config := { maxSteps := 4000000 }) only [↓sx0, ↓sx1, ↓sx2, ↓sx3, ↓sx4, ↓sx5, ↓sx6, sx0, sx1, sx2, sx3, sx4, sx5, sx6, tf14, ev3_hold, sxo, sxc, sxp, sxq, sxr, sxs, sxl, sxm, simprocAttr, e2]
        refine at_1 (hr' _) i1_len (List.getElem?_eq_getElem hkm) rfl fun ad' => ?_
        rw [List.drop_eq_getElem_cons hkl, List.drop_eq_getElem_cons hkm, List.cons.injEq] at ht
        simp (config := { maxSteps := 4000000 }) only [↓sx0, ↓sx1, ↓sx2, ↓sx3, ↓sx4, ↓sx5, ↓sx6, sx0, sx1, sx2, sx3, sx4, sx5, sx6, tf14, ev3_hold, sxo, sxc, sxp, sxq, sxr, sxs, sxl, sxm, simprocAttr, e2]
        refine ⟨fun h2 => ?_, fun h2 => ⟨k + 1, _, rfl, HImp.refl _ _, ⟨rfl, by omega, ?_⟩, by omega⟩⟩
        · have : ¬ l = m := fun h => h2 (ht.1 h).1
          simp [this]
        · rw [ht]
          exact ⟨fun h => h.2, fun h => ⟨h2, h⟩⟩
      · have : l = m := by rw [ht, List.drop_of_length_le (by omega), List.drop_of_length_le (by omega)]
        simp [this]
  · simp (config := { maxSteps := 4000000 }) only [↓sx0, ↓sx1, ↓sx2, ↓sx3, ↓sx4, ↓sx5, ↓sx6, sx0, sx1, sx2, sx3, sx4, sx5, sx6, tf14, ev3_hold, sxo, sxc, sxp, sxq, sxr, sxs, sxl, sxm, simprocAttr]
    refine ⟨fun _ => ?_, fun h1 => absurd (by omega) hl⟩
    have : l ≠ m := fun h => hl (by rw [← hn, ← hn', h])
    simp [this]
end Go.Proofs.Ytgpglmcbopfddaa

namespace Go.Proofs.Ytgpglmcbopfddaa
open Go.RowKit Go.SX
set_option maxRecDepth 10000
set_option maxHeartbeats 4000000
set_option linter.unusedSimpArgs false
set_option linter.unusedVariables false
theorem ct_span (lo hi : Int) (h1 : -300 ≤ lo) (h2 : lo ≤ hi + 1) (n : Nat) : (ct (at300 (inS (lo, hi))) n : Int) = if (n : Int) - 300 ≤ lo then 0 else if (n : Int) - 301 ≤ hi then (n : Int) - 300 - lo else hi - lo + 1 := by
  induction n with
  | zero =>
    rw [ct]
    split
    · rfl
    · omega
  | succ n ih =>
    rw [ct]
    have : at300 (inS (lo, hi)) n = (decide (lo ≤ (n : Int) - 300) && decide ((n : Int) - 300 ≤ hi)) := rfl
    rw [this]
    generalize ct (at300 (inS (lo, hi))) n = c at ih
    rw [Int.natCast_add, ih]
    by_cases c1 : lo ≤ (n : Int) - 300
    · by_cases c2 : (n : Int) - 300 ≤ hi
      · simp only [c1, c2, decide_true, Bool.and_self, if_true]
        repeat' split
        all_goals omega
      · simp only [c1, c2, decide_true, decide_false, Bool.and_false, Bool.false_eq_true, if_false]
        repeat' split
        all_goals omega
    · simp only [c1, decide_false, Bool.false_and, Bool.false_eq_true, if_false]
      repeat' split
      all_goals omega
theorem ct_or (p q : Nat → Bool) (hd : ∀ i, p i = true → q i = true → False) (n : Nat) : ct (fun i => p i || q i) n = ct p n + ct q n := by
  induction n with
  | zero => rfl
  | succ n ih =>
    simp only [ct, ih]
    have := hd n
    rcases Bool.eq_false_or_eq_true (p n) with hp | hp <;> rcases Bool.eq_false_or_eq_true (q n) with hq | hq
    · exact (this hp hq).elim
    all_goals simp only [hp, hq, Bool.or_true, Bool.or_false, Bool.true_or, Bool.false_or, if_true, if_false, Bool.false_eq_true]; omega
theorem at300_or (p q : Int → Bool) : at300 (fun u => p u || q u) = fun i => at300 p i || at300 q i := rfl
def exH0 : Hnd := ⟨3, 2, 4, [], 1⟩
def exH1 : Hnd := ⟨1, 1, 8, [(-4, -1)], 1⟩
def exH2 : Hnd := ⟨2, 3, 5, [], 0⟩
def exS : Stn := ⟨[exH0, exH1, exH2], 10, 6⟩
def exP : List Pg := [(0, 0, 1), (1, 1, 1), (2, 0, 2), (3, 2, 2), (4, 1, 3), (5, 0, 1)]
theorem ex_may0 : mayP exS exH0 8 3 := by
  intro t ht h
  have e1 : (fun u => srv exH0.log u || inS (8, 8 + 3 - 1) u) = inS (8, 10) := rfl
  have e2 : (fun u => noS u || inS (8, 8 + 3 - 1) u) = inS (8, 10) := rfl
  rw [e2] at h
  rw [e1]
  rw [ct_span 8 10 (by omega) (by omega), ct_span 8 10 (by omega) (by omega)] at *
  show _ ≤ (6 : Int)
  repeat' split
  all_goals omega
theorem srv_one (s : Spn) : (fun u => srv [s] u) = inS s := by
  funext u
  unfold srv
  rw [List.any_cons, List.any_nil, Bool.or_false]
theorem ex_ct (a b : Int) (h0 : 0 ≤ a) (h : a ≤ b + 1) (n : Nat) : (ct (at300 fun u => srv exH1.log u || inS (a, b) u) n : Int) = (ct (at300 (inS (-4, -1))) n : Int) + (ct (at300 (inS (a, b))) n : Int) := by
  have e : (fun u => srv exH1.log u || inS (a, b) u) = fun u => inS (-4, -1) u || inS (a, b) u := by
    funext u
    show (srv [(-4, -1)] u || _) = _
    rw [show srv [(-4, -1)] u = inS (-4, -1) u from congrFun (srv_one (-4, -1)) u]
  rw [e, at300_or, ct_or]
  · rw [Int.natCast_add]
  · intro i h1 h2
    simp only [at300, inS, Bool.and_eq_true, decide_eq_true_eq] at h1 h2
    omega
theorem ex_may (t len : Int) (h : mayP exS exH1 t len ↔ mayP exS exH1 t len) (ht : 0 ≤ t) (hl : 0 ≤ len) : mayP exS exH1 t len ↔ ∀ u : Nat, u < 900 → 0 < (ct (at300 (inS (t, t + len - 1))) (u + 1) : Int) - ct (at300 (inS (t, t + len - 1))) (u + 1 - 10) →
    ((ct (at300 (inS (-4, -1))) (u + 1) : Int) + (ct (at300 (inS (t, t + len - 1))) (u + 1) : Int)) - ((ct (at300 (inS (-4, -1))) (u + 1 - 10) : Int) + (ct (at300 (inS (t, t + len - 1))) (u + 1 - 10) : Int)) ≤ 6 := by
  unfold mayP allAlw alw
  simp only [ex_ct t (t + len - 1) ht (by omega)]
  try rfl
theorem ex_may1 : mayP exS exH1 8 3 := by
  rw [ex_may _ _ Iff.rfl (by omega) (by omega)]
  intro u hu h
  rw [show (8 : Int) + 3 - 1 = 10 by omega] at *
  rw [ct_span 8 10 (by omega) (by omega), ct_span 8 10 (by omega) (by omega)] at *
  rw [ct_span (-4) (-1) (by omega) (by omega), ct_span (-4) (-1) (by omega) (by omega)]
  repeat' split
  all_goals omega
theorem ex_sp1 : mayP exS exH1 0 1 := by
  rw [ex_may _ _ Iff.rfl (by omega) (by omega)]
  intro u hu h
  rw [show (0 : Int) + 1 - 1 = 0 by omega] at *
  rw [ct_span 0 0 (by omega) (by omega), ct_span 0 0 (by omega) (by omega)] at *
  rw [ct_span (-4) (-1) (by omega) (by omega), ct_span (-4) (-1) (by omega) (by omega)]
  repeat' split
  all_goals omega
theorem ex_sp2 : mayP exS exH1 0 2 := by
  rw [ex_may _ _ Iff.rfl (by omega) (by omega)]
  intro u hu h
  rw [show (0 : Int) + 2 - 1 = 1 by omega] at *
  rw [ct_span 0 1 (by omega) (by omega), ct_span 0 1 (by omega) (by omega)] at *
  rw [ct_span (-4) (-1) (by omega) (by omega), ct_span (-4) (-1) (by omega) (by omega)]
  repeat' split
  all_goals omega
theorem ex_sp3 : ¬ mayP exS exH1 0 3 := by
  rw [ex_may _ _ Iff.rfl (by omega) (by omega)]
  intro h
  have := h 302 (by omega)
  rw [show (0 : Int) + 3 - 1 = 2 by omega] at this
  rw [ct_span 0 2 (by omega) (by omega), ct_span 0 2 (by omega) (by omega), ct_span (-4) (-1) (by omega) (by omega), ct_span (-4) (-1) (by omega) (by omega)] at this
  exact absurd (this (by decide)) (by decide)
theorem ex_spare : spareE exS 1 0 = 0 ∧ spareV exS 1 0 = 2 := by
  have h0 : spareE exS 1 0 = 0 := by decide
  refine ⟨h0, ?_⟩
  unfold spareV
  rw [if_pos h0]
  have : spareN exS (1 : Int).toNat 0 = 2 := by
    show runP (fun n => mayP exS exH1 0 ((n : Int) + 1)) 0 40 = 2
    rw [runP_yes ex_sp1, runP_yes ex_sp2, runP_no ex_sp3]
  rw [this]
  try rfl
theorem ex_low (x : Bool) : fillG (okS [x, false, false] exS.hands [1, 2]) 3 2 [] = none := by
  cases x <;> decide
theorem ex_hit : fillG (okS [true, true, false] exS.hands [1, 2]) 3 2 [] = some [1, 0] := by decide
theorem ex_mus : musG exS 0 3 [1, 2] = some (8, [1, 0]) := by
  unfold musG
  have hl : ∀ k : Nat, k ≤ 8 → (List.range 101).findSome? (fun (j : Nat) => (fillG (okS (atL exS 0 3 (0 + (j : Int))) exS.hands [1, 2]) exS.hands.length [1, 2].length []).map fun l => (j, l)) = ((List.range 101).drop k).findSome? (fun (j : Nat) => (fillG (okS (atL exS 0 3 (0 + (j : Int))) exS.hands [1, 2]) exS.hands.length [1, 2].length []).map fun l => (j, l)) := by
    intro k
    induction k with
    | zero => intro _; rfl
    | succ k ih =>
      intro hk
      rw [ih (by omega)]
      refine findSome_drop (a := k) (by rw [List.getElem?_range (by omega)]) ?_
      have : atL exS 0 3 (0 + (k : Int)) = [canB exS 0 3 (0 + (k : Int)) exH0, false, false] := by
        show [canB exS 0 3 (0 + (k : Int)) exH0, canB exS 0 3 (0 + (k : Int)) exH1, canB exS 0 3 (0 + (k : Int)) exH2] = _
        have e1 : canB exS 0 3 (0 + (k : Int)) exH1 = false := by
          unfold canB
          rw [show decide (0 + exH1.high ≤ 0 + (k : Int)) = false from decide_eq_false (by show ¬ (0 + 8 ≤ 0 + (k : Int)); omega)]
          rw [Bool.and_false, Bool.false_and]
        have e2 : canB exS 0 3 (0 + (k : Int)) exH2 = false := by
          unfold canB
          rw [show decide (exH2.ans = 1) = false from rfl, Bool.false_and, Bool.false_and]
        rw [e1, e2]
      show Option.map _ (fillG (okS (atL exS 0 3 (0 + (k : Int))) exS.hands [1, 2]) 3 2 []) = none
      rw [this, ex_low]
      try rfl
  refine (hl 8 (by omega)).trans ?_
  refine findSome_hit (a := 8) (by rw [List.getElem?_range (by omega)]) ?_
  have : atL exS 0 3 (0 + ((8 : Nat) : Int)) = [true, true, false] := by
    show [canB exS 0 3 8 exH0, canB exS 0 3 8 exH1, canB exS 0 3 8 exH2] = _
    have e0 : canB exS 0 3 8 exH0 = true := by
      unfold canB
      rw [show decide (exH0.ans = 1) = true from rfl, show decide (0 + exH0.high ≤ 8) = true from rfl, @decide_eq_true _ (Classical.propDecidable _) ex_may0]
      try rfl
    have e1 : canB exS 0 3 8 exH1 = true := by
      unfold canB
      rw [show decide (exH1.ans = 1) = true from rfl, show decide (0 + exH1.high ≤ 8) = true from rfl, @decide_eq_true _ (Classical.propDecidable _) ex_may1]
      try rfl
    have e2 : canB exS 0 3 8 exH2 = false := by
      unfold canB
      rw [show decide (exH2.ans = 1) = false from rfl, Bool.false_and, Bool.false_and]
    rw [e0, e1, e2]
  show Option.map _ (fillG (okS (atL exS 0 3 (0 + ((8 : Nat) : Int))) exS.hands [1, 2]) 3 2 []) = some (8, [1, 0])
  rw [this, ex_hit]
  try rfl
theorem ex_muster : musE exS 0 [1, 2] 3 = 0 ∧ musT exS 0 [1, 2] 3 = 8 ∧ musL exS 0 [1, 2] 3 = [1, 0] := by
  have h0 : callE exS 0 [1, 2] 3 = 0 := by decide
  unfold musE musT musL
  rw [if_pos h0, if_pos h0, if_pos h0, ex_mus]
  exact ⟨rfl, rfl, rfl⟩
theorem ex_ans : pagedN 3 5 exP = 0 ∧ ansL 3 5 exP = [0, 2, 0] := by decide
end Go.Proofs.Ytgpglmcbopfddaa

namespace Go.Proofs.Ytgpglmcbopfddaa
open Go.RowKit Go.SX
set_option maxRecDepth 10000
set_option maxHeartbeats 4000000
set_option linter.unusedSimpArgs false
set_option linter.unusedVariables false
def exHs (b : Nat) : List Hm := [(exH0, none, 0), (exH1, some ⟨b, 0, none⟩, 1), (exH2, none, 0)]
theorem example_fn (w : World) : SX.Fn Try.prog 26 [] w (fun _ => False) fun r N => ∃ b1 b2 b3, r = .tuple #[.agg #[.slice (some ⟨b2, 0, none⟩) 3 3, I 10, I 6], .slice (some ⟨b3, 0, none⟩) 6 6] ∧
    HO.row (.slice (some ⟨b1, 0, none⟩) 1 1) 41 2 (cat spc [(-4, -1)]) ∈ N ∧ HO.row (.slice (some ⟨b2, 0, none⟩) 3 3) 44 5 (cat hdc (exHs b1)) ∈ N ∧ HO.row (.slice (some ⟨b3, 0, none⟩) 6 6) 99 3 (cat pgc exP) ∈ N := by
  refine walk [] [] (det0_ok _ _) Try.func26 rfl Try.ntmps26 res26 (by kernel_rfl) no_facts ?_
  simp (config := { maxSteps := 4000000 }) only [↓sx0, ↓sx1, ↓sx2, ↓sx3, ↓sx4, ↓sx5, ↓sx6, sx0, sx1, sx2, sx3, sx4, sx5, sx6, tf26, ev3_hold, sxo, sxc, sxp, sxq, sxr, sxs, sxl, sxm, simprocAttr]
  intro b1 b2 b3
  exact ⟨b1, b2, b3, rfl, List.mem_cons_of_mem _ (List.mem_cons_of_mem _ List.mem_cons_self), List.mem_cons_of_mem _ List.mem_cons_self, List.mem_cons_self⟩
theorem exS_ok {w0 : Base} {H : List HO} {w : World} {b1 b2 : Nat} (h1 : HO.row (.slice (some ⟨b1, 0, none⟩) 1 1) 41 2 (cat spc [(-4, -1)]) ∈ H) (h2 : HO.row (.slice (some ⟨b2, 0, none⟩) 3 3) 44 5 (cat hdc (exHs b1)) ∈ H) (hp : Hp w0 H w) : StOk w (.agg #[.slice (some ⟨b2, 0, none⟩) 3 3, I 10, I 6]) exS := by
  refine ⟨_, exHs b1, rfl, rfl, row_hp h2 hp, fun p hm => ?_⟩
  simp only [exHs, List.mem_cons, List.not_mem_nil, or_false] at hm
  rcases hm with rfl | rfl | rfl
  · exact Sl.nil _ _
  · exact row_hp h1 hp
  · exact Sl.nil _ _
theorem exS_small : exS.small := by
  refine ⟨by decide, fun h hh => ?_⟩
  have : h = exH0 ∨ h = exH1 ∨ h = exH2 := by simpa [exS] using hh
  rcases this with rfl | rfl | rfl <;> decide
theorem works_fn (w : World) : SX.Fn Try.prog 10 [] w (fun _ => False) fun r N => r = .bool true := by
  refine walk [] [] (det0_ok _ _) Try.func10 rfl Try.ntmps10 res10 (by kernel_rfl) no_facts ?_
  simp (config := { maxSteps := 4000000 }) only [↓sx0, ↓sx1, ↓sx2, ↓sx3, ↓sx4, ↓sx5, ↓sx6, sx0, sx1, sx2, sx3, sx4, sx5, sx6, tf10, ev3_hold, sxo, sxc, sxp, sxq, sxr, sxs, sxl, sxm, simprocAttr, det0]
  refine CallOb.pureH (fun w' hp' => example_fn w') ?_
  rintro r N ⟨b1, b2, b3, rfl, m1, m2, m3⟩
  refine ⟨?_⟩
  simp (config := { maxSteps := 4000000 }) only [↓sx0, ↓sx1, ↓sx2, ↓sx3, ↓sx4, ↓sx5, ↓sx6, sx0, sx1, sx2, sx3, sx4, sx5, sx6, tf10, ev3_hold, sxo, sxc, sxp, sxq, sxr, sxs, sxl, sxm, simprocAttr, det0]
  intro b4
  refine CallOb.pureH (fun w' hp' => muster1_fn w' _ exS (exS_ok (b1 := b1) (b2 := b2) (by simp [m1]) (by simp [m2]) hp') exS_small 0 _ [1, 2] (row_hp List.mem_cons_self hp') (by decide) 3) ?_
  rintro r N1 ⟨x1, rfl, g1⟩
  rw [ex_muster.1, ex_muster.2.1]
  rw [ex_muster.2.2] at g1
  refine ⟨?_⟩
  simp (config := { maxSteps := 4000000 }) only [↓sx0, ↓sx1, ↓sx2, ↓sx3, ↓sx4, ↓sx5, ↓sx6, sx0, sx1, sx2, sx3, sx4, sx5, sx6, tf10, ev3_hold, sxo, sxc, sxp, sxq, sxr, sxs, sxl, sxm, simprocAttr, det0]
  refine CallOb.pureH (fun w' hp' => answers_fn w' 3 5 _ exP (row_hp (E := 99) (by simp [m3]) hp') (by decide)) ?_
  rintro r N2 ⟨x2, rfl, g2⟩
  rw [ex_ans.1]
  rw [if_pos ex_ans.1, ex_ans.2] at g2
  refine ⟨?_⟩
  simp (config := { maxSteps := 4000000 }) only [↓sx0, ↓sx1, ↓sx2, ↓sx3, ↓sx4, ↓sx5, ↓sx6, sx0, sx1, sx2, sx3, sx4, sx5, sx6, tf10, ev3_hold, sxo, sxc, sxp, sxq, sxr, sxs, sxl, sxm, simprocAttr, det0]
  refine CallOb.pureH (fun w' hp' => spare_fn w' _ exS (exS_ok (b1 := b1) (b2 := b2) (by simp [m1]) (by simp [m2]) hp') exS_small 1 0) ?_
  rintro r N3 rfl
  rw [ex_spare.1, ex_spare.2]
  refine ⟨?_⟩
  simp (config := { maxSteps := 4000000 }) only [↓sx0, ↓sx1, ↓sx2, ↓sx3, ↓sx4, ↓sx5, ↓sx6, sx0, sx1, sx2, sx3, sx4, sx5, sx6, tf10, ev3_hold, sxo, sxc, sxp, sxq, sxr, sxs, sxl, sxm, simprocAttr, det0]
  intro b5
  refine CallOb.pureH (fun w' hp' => same_fn w' _ _ [1, 0] [1, 0] (g1.hp (by simp +contextual) hp') (row_hp (E := 3) List.mem_cons_self hp') (by decide)) ?_
  rintro r N4 rfl
  refine ⟨?_⟩
  simp (config := { maxSteps := 4000000 }) only [↓sx0, ↓sx1, ↓sx2, ↓sx3, ↓sx4, ↓sx5, ↓sx6, sx0, sx1, sx2, sx3, sx4, sx5, sx6, tf10, ev3_hold, sxo, sxc, sxp, sxq, sxr, sxs, sxl, sxm, simprocAttr, det0]
  intro b6
  refine CallOb.pureH (fun w' hp' => same_fn w' _ _ [0, 2, 0] [0, 2, 0] (g2.hp (by simp +contextual) hp') (row_hp (E := 3) List.mem_cons_self hp') (by decide)) ?_
  rintro r N5 rfl
  refine ⟨?_⟩
  simp (config := { maxSteps := 4000000 }) only [↓sx0, ↓sx1, ↓sx2, ↓sx3, ↓sx4, ↓sx5, ↓sx6, sx0, sx1, sx2, sx3, sx4, sx5, sx6, tf10, ev3_hold, sxo, sxc, sxp, sxq, sxr, sxs, sxl, sxm, simprocAttr]
end Go.Proofs.Ytgpglmcbopfddaa

namespace Go.Proofs.Ytgpglmcbopfddaa
open Go.RowKit Go.SX Go.ChangeShapes Go.WideShapes Go.ChangeAt
set_option maxRecDepth 4000
theorem own0 : ownKnob Try.prog.godebug = none := by kernel_rfl
theorem laidOut0 : laidOutB Try.prog = true := by kernel_rfl
theorem agg_of {w : World} {base : Nat} {t : TypeId} {v : Value} {fs : Array Field} (hu : Try.prog.underlying t = some (.struct fs)) (h : Value.okWide Try.prog w .any base t v) : ∃ cs, v = .agg cs := by
  unfold Value.okWide at h
  rw [hu] at h
  obtain ⟨cs, h, _⟩ := h
  exact ⟨cs, h⟩
theorem leaves2 {P : Program} {w : World} {vs : List Value} (h : Lvs P w [.int .i64, .int .i64] vs) : ∃ a b, vs = [I a, I b] := by
  cases h with | int _ h => cases h with | int _ h => cases h with | nil => exact ⟨_, _, rfl⟩
theorem leaves1 {P : Program} {w : World} {vs : List Value} (h : Lvs P w [.int .i64] vs) : ∃ a, vs = [I a] := by
  cases h with | int _ h => cases h with | nil => exact ⟨_, rfl⟩
theorem flat_int : flat Try.prog 4 3 = some [.int .i64] := by kernel_rfl
theorem flat_span : flat Try.prog 4 41 = some [.int .i64, .int .i64] := by kernel_rfl
theorem flat_hand : flat Try.prog 4 44 = some [.int .i64, .int .i64, .int .i64, .slice 41, .int .i64] := by kernel_rfl
theorem flat_station : flat Try.prog 4 24 = some [.slice 44, .int .i64, .int .i64] := by kernel_rfl
theorem flat_ints : flat Try.prog 4 25 = some [.slice 3] := by kernel_rfl
theorem cells_int : Try.prog.cellsOf 3 = 1 := by kernel_rfl
theorem cells_span : Try.prog.cellsOf 41 = 2 := by kernel_rfl
theorem cells_hand : Try.prog.cellsOf 44 = 5 := by kernel_rfl
theorem cat_ofP {α : Type} {f : α → List Value} {p : α → Prop} : ∀ {xss : List (List Value)}, (∀ xs ∈ xss, ∃ u, xs = f u ∧ p u) → ∃ l : List α, xss.flatten = cat f l ∧ l.length = xss.length ∧ ∀ u ∈ l, p u
  | [], _ => ⟨[], rfl, rfl, fun _ h => by cases h⟩
  | xs :: xss, h => by
    obtain ⟨u, rfl, hu⟩ := h xs List.mem_cons_self
    obtain ⟨l, hl, hn, hp⟩ := cat_ofP fun ys hy => h ys (List.mem_cons_of_mem _ hy)
    refine ⟨u :: l, by rw [List.flatten_cons, hl, cat_cons], by simp [hn], fun v hv => ?_⟩
    rcases List.mem_cons.1 hv with rfl | hv
    · exact hu
    · exact hp v hv
theorem sl_ints {w : World} {a : Option Addr} {len cap : Nat} {xss : List (List Value)} (hs : Sl w (.slice a len cap) (Try.prog.cellsOf 3) xss.flatten) (hx : ∀ xs ∈ xss, ∀ m es, flat Try.prog m 3 = some es → Lvs Try.prog w es xs) : ∃ l : List Int, Sl w (.slice a len cap) 1 (ints l) := by
  obtain ⟨us, hu, hl⟩ := cat_of (f := i1) (xss := xss) fun xs hxs => by
    obtain ⟨a, hl⟩ := leaves1 (hx xs hxs 4 _ flat_int)
    exact ⟨a, hl⟩
  rw [cells_int, hu] at hs
  exact ⟨us, hs⟩
theorem sl_spans {w : World} {a : Option Addr} {len cap : Nat} {xss : List (List Value)} (hs : Sl w (.slice a len cap) (Try.prog.cellsOf 41) xss.flatten) (hx : ∀ xs ∈ xss, ∀ m es, flat Try.prog m 41 = some es → Lvs Try.prog w es xs) : ∃ l : List Spn, Sl w (.slice a len cap) 2 (cat spc l) := by
  obtain ⟨us, hu, hl⟩ := cat_of (f := spc) (xss := xss) fun xs hxs => by
    obtain ⟨a, b, hl⟩ := leaves2 (hx xs hxs 4 _ flat_span)
    exact ⟨(a, b), hl⟩
  rw [cells_span, hu] at hs
  exact ⟨us, hs⟩
theorem hand_lvs {w : World} {vs : List Value} (h : Lvs Try.prog w [.int .i64, .int .i64, .int .i64, .slice 41, .int .i64] vs) : ∃ p : Hm, vs = hdc p ∧ LogOk w p := by
  cases h with | @int _ sk _ _ _ h => cases h with | @int _ lo _ _ _ h => cases h with | @int _ hi _ _ _ h => cases h with | @slice _ a len cap x1 _ _ _ _ _ s1 _ e1 h => cases h with | @int _ an _ _ _ h => cases h with | nil =>
    obtain ⟨l, hl⟩ := sl_spans s1 e1
    have hn := hl.le spc_len (by omega)
    subst hn
    exact ⟨(⟨sk, lo, hi, l, an⟩, a, cap), rfl, hl⟩
theorem sl_hands {w : World} {a : Option Addr} {len cap : Nat} {xss : List (List Value)} (hs : Sl w (.slice a len cap) (Try.prog.cellsOf 44) xss.flatten) (hx : ∀ xs ∈ xss, ∀ m es, flat Try.prog m 44 = some es → Lvs Try.prog w es xs) : ∃ l : List Hm, Sl w (.slice a len cap) 5 (cat hdc l) ∧ ∀ p ∈ l, LogOk w p := by
  obtain ⟨us, hu, _, hp⟩ := cat_ofP (f := hdc) (p := LogOk w) (xss := xss) fun xs hxs => hand_lvs (hx xs hxs 4 _ flat_hand)
  rw [cells_hand, hu] at hs
  exact ⟨us, hs, hp⟩
section
variable {H : Type} {enc : TypeId × Value → H} {w : World} {base : Nat} {v : Value} {d : DataW H} {ps : List MemPlace}
theorem station_of (h : Value.okWide Try.prog w .any base 24 v) (hd : DataW.Trod enc Try.prog w 0 (fun _ => true) true 24 v d ps) : ∃ s, StOk w v s := by
  obtain ⟨cs, rfl⟩ := agg_of Try.underlying24 h
  have hl := lvs_of_Trod hd 4 flat_station
  rw [show (Value.agg cs).cells.toList = cs.toList from rfl] at hl
  generalize hcs : cs.toList = l at hl
  cases hl with | @slice _ a len cap x1 _ _ _ _ _ s1 _ e1 hl => cases hl with | @int _ wi _ _ _ hl => cases hl with | @int _ du _ _ _ hl =>
    cases hl
    obtain ⟨l1, h1, h2⟩ := sl_hands s1 e1
    exact ⟨⟨l1.map Prod.fst, wi, du⟩, _, l1, by rw [show cs = cs.toList.toArray by simp, hcs], rfl, h1, h2⟩
end
theorem law_calls {f : Nat} {fn : Func} {s : ChangeSpec} {H : Type} {enc : TypeId × Value → H} {W : World} {args : Array Value} {ds gs : List (DataW H)} {before : List MemPlace} {b : TypeId}
    (hts : fn.params.toList.all (fun t => Try.prog.readableRec t && decide (t < Try.prog.types.size)) = true) (hr : fn.resultTypes = #[b]) (hb : Try.prog.underlying b = some .bool) (hv : s.vars = [])
    (hW : DataW.Whole enc Try.prog fn.params.toList s.vars false W args.toList ds gs before) (h1 : (s.fn H (ds ++ gs)).results = [.lit (.bool true)]) (h2 : (s.fn H (ds ++ gs)).args = ds) (h3 : (s.fn H (ds ++ gs)).vars = [])
    (h : SX.Fn Try.prog f args.toList W (fun _ => False) fun r _ => r = .bool true) : Calls Try.prog f args W fun e W' => ∃ v, e = .returned v ∧ s.post enc Try.prog fn false true false false W args v W' := by
  unfold SX.Fn at h
  rw [Array.toArray_toList] at h
  refine Calls.mono h fun e W' hh => ?_
  obtain ⟨v, N, he, hk, _, _, _, rfl⟩ := hh
  exact ⟨_, he, law_post laidOut0 hts hr hb hv hW h1 h2 h3 hk⟩
end Go.Proofs.Ytgpglmcbopfddaa

