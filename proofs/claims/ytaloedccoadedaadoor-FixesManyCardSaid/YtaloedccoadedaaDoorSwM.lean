/- A part of a proof: the symbolic walk and what it shows of single functions. -/
import Derived.Test.YtaloedccoadedaaDoorG3
import Derived.Test.YtaloedccoadedaaDoorF8
import Derived.Test.YtaloedccoadedaaDoorF9
set_option linter.all false
namespace Go.Proofs.YtaloedccoadedaaDoor
open Go.RowKit Go.SX
set_option maxRecDepth 20000
set_option maxHeartbeats 0
set_option linter.unusedSimpArgs false
set_option linter.unusedVariables false
def jnB (can : Nat → Bool) (who : List Nat) (many : Nat) : Bool := (List.range many).all fun n => can (msk who n)
theorem jnB_iff {can : Nat → Bool} {who : List Nat} {many : Nat} : jnB can who many = true ↔ ∀ n, n < many → can (msk who n) = true := by
  unfold jnB
  rw [List.all_eq_true]
  exact ⟨fun h n hn => h n (List.mem_range.2 hn), fun h n hn => h n (List.mem_range.1 hn)⟩
theorem jnB_step {can : Nat → Bool} {who : List Nat} {n : Nat} : jnB can who (n + 1) = (jnB can who n && can (msk who n)) := by
  unfold jnB
  rw [List.range_succ, List.all_append]
  simp
theorem jnB_false {can : Nat → Bool} {who : List Nat} {n many : Nat} (h : n < many) (hc : can (msk who n) = false) : jnB can who many = false := by
  cases hj : jnB can who many with
  | false => rfl
  | true =>
    rw [jnB_iff.1 hj n h] at hc
    cases hc
theorem joined_fn (w : World) (hw : Ways w) (v : Value) (d : Dis) (hd : DsOk w v d) (hE : d.E = 0) (vo : Value) (who : List Nat) (hwho : Sl w vo 1 (ints (zs who))) (hl : who.length ≤ d.rs.length) (many : Nat) (hmany : many ≤ 1000) :
    SX.Fn Tryd.prog 39 [v, vo, I many] w (fun _ => False) fun q N => q = .bool (jnB d.canB who many) := by
  have hjo := fun (n : Nat) (H : List HO) w' (hp : Hp ⟨w, fun _ => False⟩ H w') => rjoint_fn w' (hw.hp hp) v d (hd.hp hp) hE vo who (hwho.hp (fun _ _ => id) hp) hl n
  obtain ⟨sD, sT, sS, sR, rfl, hc, hsR⟩ := hd
  have dn : ∀ (g : Nat) (xs : List Value), det0 g xs = none := fun _ _ => rfl
  obtain ⟨ao, no, co, rfl⟩ := hwho.shape
  refine walk [] [] (det0_ok _ _) Tryd.func39 rfl Tryd.ntmps39 res39 (by kernel_rfl) no_facts ?_
  simp (config := { maxSteps := 4000000 }) only [↓sx0, ↓sx1, ↓sx2, ↓sx3, ↓sx4, ↓sx5, ↓sx6, sx0, sx1, sx2, sx3, sx4, sx5, sx6, tf39, ev3_hold, sxo, sxc, sxp, sxq, sxr, sxs, sxl, sxm, simprocAttr]
  refine loop_constH [] (HImp.refl _ _) [(6, 17)] (fun i : Nat => [(7, I i)]) (fun i H1 => i ≤ many ∧ H1 = [] ∧ jnB d.canB who i = true) (fun i => many - i) 0 ?_ ⟨Nat.zero_le _, rfl, rfl⟩ ?_
  · simp (config := { maxSteps := 4000000 }) only [↓sx0, ↓sx1, ↓sx2, ↓sx3, ↓sx4, ↓sx5, ↓sx6, sx0, sx1, sx2, sx3, sx4, sx5, sx6, tf39, ev3_hold, sxo, sxc, sxp, sxq, sxr, sxs, sxl, sxm, simprocAttr]
    try simp
  rintro i H1 g1 ⟨hi, rfl, hj⟩
  by_cases hin : i = many
  · have e7 : ((i : Int) < (many : Int)) = False := eq_false (by omega)
    rw [hin] at hj e7 ⊢
    rw [hj]
    refine ⟨?_⟩
    simp (config := { maxSteps := 4000000 }) only [↓sx0, ↓sx1, ↓sx2, ↓sx3, ↓sx4, ↓sx5, ↓sx6, sx0, sx1, sx2, sx3, sx4, sx5, sx6, tf39, ev3_hold, sxo, sxc, sxp, sxq, sxr, sxs, sxl, sxm, simprocAttr, e7]
  have e7 : ((i : Int) < (many : Int)) = True := eq_true (by omega)
  have e8 : wr (i + 1) = ((i + 1 : Nat) : Int) := (wrap_id (by omega)).trans (by omega)
  have hjo := hjo i
  have hst := jnB_step (can := d.canB) (who := who) (n := i)
  obtain ⟨B, hB⟩ : ∃ B, d.canB (msk who i) = B := ⟨_, rfl⟩
  rw [hB, hj] at hst
  simp only [hB] at hjo
  refine ⟨?_⟩
  simp (config := { maxSteps := 4000000 }) only [↓sx0, ↓sx1, ↓sx2, ↓sx3, ↓sx4, ↓sx5, ↓sx6, sx0, sx1, sx2, sx3, sx4, sx5, sx6, tf39, ev3_hold, sxo, sxc, sxp, sxq, sxr, sxs, sxl, sxm, simprocAttr, e7, dn]
  refine CallOb.pureH (fun w' hp => hjo _ w' hp) ?_
  rintro q N rfl
  cases B with
  | true =>
    refine ⟨?_⟩
    simp (config := { maxSteps := 4000000 }) only [↓sx0, ↓sx1, ↓sx2, ↓sx3, ↓sx4, ↓sx5, ↓sx6, sx0, sx1, sx2, sx3, sx4, sx5, sx6, tf39, ev3_hold, sxo, sxc, sxp, sxq, sxr, sxs, sxl, sxm, simprocAttr, e8]
    exact ⟨i + 1, _, rfl, HImp.nil _ _, ⟨by omega, rfl, hst⟩, by omega⟩
  | false =>
    rw [jnB_false (by omega) hB]
    refine ⟨?_⟩
    simp (config := { maxSteps := 4000000 }) only [↓sx0, ↓sx1, ↓sx2, ↓sx3, ↓sx4, ↓sx5, ↓sx6, sx0, sx1, sx2, sx3, sx4, sx5, sx6, tf39, ev3_hold, sxo, sxc, sxp, sxq, sxr, sxs, sxl, sxm, simprocAttr]
theorem one_course {d : Dis} (hE : d.E = 0) (hl : (d.crs pAll).least < NV) (S : Nat) : d.canB S = true := by
  obtain ⟨f1, f2⟩ := Dis.first_tru hE hl
  exact (Dis.canB_iff hE S).2 ⟨_, f1, fun i hi _ => f2 i hi⟩
theorem canB_sub {d : Dis} (hE : d.E = 0) (S T : Nat) (h : ∀ j, S.testBit j = true → T.testBit j = true) (hT : d.canB T = true) : d.canB S = true := Dis.canB_mono hE S T (fun i _ => h i) hT
theorem ints_ofL {H : Type} {enc : TypeId × Value → H} {w : World} {base : Nat} {v : Value} {d : DataW H} {ps : List MemPlace} (h : Value.okWide Tryd.prog w .any base 22 v) (hd : DataW.Trod enc Tryd.prog w 0 (fun _ => true) true 22 v d ps) : ∃ l, Sl w v 1 (ints l) ∧ l.length ≤ 9223372036854775807 := by
  obtain ⟨a, n, c, rfl⟩ := slice_of Tryd.underlying22 h
  have hl := lvs_of_Trod hd 4 flat_ints
  rw [show (Value.slice a n c).cells.toList = [Value.slice a n c] from rfl] at hl
  cases hl with | slice x1 k1 k2 k3 s1 _ e1 hl =>
    obtain ⟨l1, h1, h2⟩ := sl_ints s1 e1
    have k3 : c ≤ 9223372036854775807 := k3
    have h3 := h1.len
    rw [cat_len i1_len] at h3
    exact ⟨l1, h1, by omega⟩
theorem usd_repl (m : Nat) : usd (List.replicate m 0) ≤ 1 := usd_le fun x hx => by
  have := List.eq_of_mem_replicate hx
  omega
theorem usd_take_le {l : List Nat} (i : Nat) : usd (l.take i) ≤ usd l := usd_le fun x hx => usd_lt (List.mem_of_mem_take hx)
theorem fixesMany_fn (w : World) (hw : Ways w) (hb : Deb w) (v : Value) (d : Dis) (hd : DsOk w v d) (vl : Value) (L : List Int) (hL : Sl w vl 1 (ints L)) (hLm : L.length ≤ 9223372036854775807) : SX.Fn Tryd.prog 10 [v, vl] w (fun _ => False) fun q N => q = .bool true := by
  obtain ⟨aL, nL, cL, rfl⟩ := hL.shape
  have hnL := hL.le i1_len (by omega)
  subst hnL
  have hL0 := hL
  have hrL := fun H => hL.rd0 H
  have hd0 := hd
  have hwk := fun (H : List HO) w' (hp : Hp ⟨w, fun _ => False⟩ H w') => works3_fn w' (hw.hp hp) (hb.hp hp)
  have hva := fun (H : List HO) w' (hp : Hp ⟨w, fun _ => False⟩ H w') => vague_fn w' (hw.hp hp) v d (hd0.hp hp)
  have hck := fun (hs : d.small) (H : List HO) w' (hp : Hp ⟨w, fun _ => False⟩ H w') => rcheck3_fn w' (hw.hp hp) v d (hd0.hp hp) hs
  have hcd := fun (hs : d.small) (H : List HO) w' (hp : Hp ⟨w, fun _ => False⟩ H w') => course_fn w' (hw.hp hp) v d (hd0.hp hp) hs
  have hsr := fun (hs : d.small) (h10 : d.E = 0 → d.rs.length ≤ 10) (H : List HO) w' (hp : Hp ⟨w, fun _ => False⟩ H w') => sources_fn w' (hw.hp hp) v d (hd0.hp hp) hs h10
  have hjn := fun (hE : d.E = 0) (vo : Value) (who : List Nat) (hl : who.length ≤ d.rs.length) (many : Nat) (hmany : many ≤ 1000) (H : List HO) w' (hp : Hp ⟨w, fun _ => False⟩ H w') (hs : Sl w' vo 1 (ints (zs who))) => joined_fn w' (hw.hp hp) v d (hd0.hp hp) hE vo who hs hl many hmany
  obtain ⟨sD, sT, sS, sR, rfl, hc, hsR⟩ := hd
  obtain ⟨aR, nR, cR, rfl⟩ := hsR.shape
  have hnR := hsR.le rpc_len (by omega)
  subst hnR
  have dn : ∀ (g : Nat) (xs : List Value), det0 g xs = none := fun _ _ => rfl
  refine walkC [9, 29] [] [] (det0_ok _ _) Tryd.func10 rfl Tryd.ntmps10 res10 (by kernel_rfl) no_facts ?_
  simp (config := { maxSteps := 4000000 }) only [↓sx0, ↓sx1, ↓sx2, ↓sx3, ↓sx4, ↓sx5, ↓sx6, sx0, sx1, sx2, sx3, sx4, sx5, sx6, tf10, ev3_hold, sxo, sxc, sxp, sxq, sxr, sxs, sxl, sxm, simprocAttr, dn]
  refine CallOb.pureH (fun w' hp => hva _ w' hp) ?_
  rintro q N ⟨b, rfl, hb1⟩
  cases b with
  | true =>
    refine ⟨?_⟩
    simp (config := { maxSteps := 4000000 }) only [↓sx0, ↓sx1, ↓sx2, ↓sx3, ↓sx4, ↓sx5, ↓sx6, sx0, sx1, sx2, sx3, sx4, sx5, sx6, tf10, ev3_hold, sxo, sxc, sxp, sxq, sxr, sxs, sxl, sxm, simprocAttr, dn]
    refine CallOb.pureH (fun w' hp => hwk _ w' hp) ?_
    rintro q N2 rfl
    refine ⟨?_⟩
    simp (config := { maxSteps := 4000000 }) only [↓sx0, ↓sx1, ↓sx2, ↓sx3, ↓sx4, ↓sx5, ↓sx6, sx0, sx1, sx2, sx3, sx4, sx5, sx6, tf10, ev3_hold, sxo, sxc, sxp, sxq, sxr, sxs, sxl, sxm, simprocAttr]
  | false =>
  have hfew := hb1 rfl
  have hsm := hfew.small
  refine ⟨?_⟩
  simp (config := { maxSteps := 4000000 }) only [↓sx0, ↓sx1, ↓sx2, ↓sx3, ↓sx4, ↓sx5, ↓sx6, sx0, sx1, sx2, sx3, sx4, sx5, sx6, tf10, ev3_hold, sxo, sxc, sxp, sxq, sxr, sxs, sxl, sxm, simprocAttr, dn]
  refine CallOb.pureH (fun w' hp => hck hsm _ w' hp) ?_
  rintro q N2 rfl
  by_cases hE : d.E = 0
  case neg =>
    have p1 : (d.E = 0) = False := eq_false hE
    refine ⟨?_⟩
    simp (config := { maxSteps := 4000000 }) only [↓sx0, ↓sx1, ↓sx2, ↓sx3, ↓sx4, ↓sx5, ↓sx6, sx0, sx1, sx2, sx3, sx4, sx5, sx6, tf10, ev3_hold, sxo, sxc, sxp, sxq, sxr, sxs, sxl, sxm, simprocAttr, p1, dn]
    refine CallOb.pureH (fun w' hp => hwk _ w' hp) ?_
    rintro q N2 rfl
    refine ⟨?_⟩
    simp (config := { maxSteps := 4000000 }) only [↓sx0, ↓sx1, ↓sx2, ↓sx3, ↓sx4, ↓sx5, ↓sx6, sx0, sx1, sx2, sx3, sx4, sx5, sx6, tf10, ev3_hold, sxo, sxc, sxp, sxq, sxr, sxs, sxl, sxm, simprocAttr]
  have p1 : (d.E = 0) = True := eq_true hE
  obtain ⟨hok, _, _, hm12, _⟩ := Dis.E_zero hE
  obtain ⟨h20, h6, hr6⟩ := hfew.2.2 hE
  have hsr := hsr hsm (fun _ => by omega)
  have hcd := hcd hsm
  have hjn := hjn hE
  have hmono := canB_sub hE
  -- what is shared
  have hsrP : ∀ q N, SrcP d q N → ∃ (x : Value) (e : Int) (r : List Nat), q = .tuple #[x, I e] ∧ Got x 3 1 i1 (zs r) N ∧ ((e = 3 ∧ srcL d.canB d.rs.length = none ∧ r = []) ∨ (e = 0 ∧ srcL d.canB d.rs.length = some r)) := fun q N h => by
    rcases h with ⟨h1, _⟩ | ⟨_, ⟨h1, rfl⟩ | ⟨l, x, h1, rfl, h2⟩⟩
    · exact absurd hE h1
    · exact ⟨_, _, [], rfl, Got.nil _, .inl ⟨rfl, h1, rfl⟩⟩
    · exact ⟨_, _, l, rfl, h2, .inr ⟨rfl, h1⟩⟩
  have hrf : ∀ (e : Int) (r : List Nat), ((e = 3 ∧ srcL d.canB d.rs.length = none ∧ r = []) ∨ (e = 0 ∧ srcL d.canB d.rs.length = some r)) → usd r ≤ 12 ∧ r.length ≤ 12 ∧ (∀ (j x : Nat), r[j]? = some x → x ≤ usd (r.take j)) ∧ (e = 0 → r.length = d.rs.length ∧ jnB d.canB r (usd r) = true ∧ ((d.crs pAll).least < NV → usd r ≤ 1)) := fun e r h => by
    rcases h with ⟨rfl, _, rfl⟩ | ⟨rfl, h⟩
    · exact ⟨by decide, by decide, fun j x h => by simp at h, fun h => by cases h⟩
    · obtain ⟨most, h1, h2, h3, h4⟩ := src_ok h
      have := h3.2.2
      refine ⟨by omega, by omega, h3.2.1, fun _ => ⟨h2, jnB_iff.2 h3.1, fun hl => ?_⟩⟩
      obtain ⟨r2, h5, h6⟩ := src_full (can := d.canB) hmono (other := List.replicate d.rs.length 0) (fun c _ => one_course hE hl _) (by
        rw [List.length_replicate]
        cases hm : d.rs.length with
        | zero => exact Nat.le_refl _
        | succ m => have := usd_repl (m + 1); omega)
      rw [List.length_replicate, h] at h5
      injection h5 with h5
      subst h5
      have := usd_repl d.rs.length
      omega
  have hfull : ∀ (e : Int) (r o : List Nat), ((e = 3 ∧ srcL d.canB d.rs.length = none ∧ r = []) ∨ (e = 0 ∧ srcL d.canB d.rs.length = some r)) → o.length = d.rs.length → (∀ x ∈ o, x < d.rs.length) → jnB d.canB o (usd o) = true → e = 0 ∧ usd r ≤ usd o := fun e r o h hol hox hj => by
    obtain ⟨r2, h5, h6⟩ := src_full (can := d.canB) hmono (other := o) (fun c hc => jnB_iff.1 hj c (usd_lt hc)) (by rw [hol]; exact usd_le hox)
    rw [hol] at h5
    rcases h with ⟨_, h, _⟩ | ⟨h0, h⟩
    · rw [h] at h5
      cases h5
    · rw [h] at h5
      injection h5 with h5
      subst h5
      exact ⟨h0, h6⟩
  have hcdP : ∀ q N, CourseP d q N → ∃ x f, q = .tuple #[x, I f] ∧ ((f = 0 ∧ (d.crs pAll).least < NV) ∨ f = 3) := fun q N ⟨x, h1, h2⟩ => by
    rw [if_pos hE] at h1
    by_cases hl : (d.crs pAll).least < NV
    · rw [if_pos hl] at h1
      exact ⟨x, 0, h1, .inl ⟨rfl, hl⟩⟩
    · rw [if_neg hl] at h1
      exact ⟨x, 3, h1, .inr rfl⟩
  refine ⟨?_⟩
  simp (config := { maxSteps := 4000000 }) only [↓sx0, ↓sx1, ↓sx2, ↓sx3, ↓sx4, ↓sx5, ↓sx6, sx0, sx1, sx2, sx3, sx4, sx5, sx6, tf10, ev3_hold, sxo, sxc, sxp, sxq, sxr, sxs, sxl, sxm, simprocAttr, p1, dn]
  refine CallOb.pureH (fun w' hp => hsr _ w' hp) ?_
  intro q N3 hq
  have hq := hsrP q N3 hq
  obtain ⟨xo, e, r, hq, hGo, he⟩ := hq
  subst hq
  have hrf := hrf e r he
  obtain ⟨hu12, hr12, hord, hyes⟩ := hrf
  obtain ⟨ao, co, hxo⟩ := hGo.shape
  subst hxo
  rw [zs_len] at hGo ⊢
  have hee : e = 0 ∨ e = 3 := he.elim (fun h => .inr h.1) (fun h => .inl h.1)
  obtain ⟨K, hK⟩ : ∃ K, N3 ++ (N2 ++ N) = K := ⟨_, rfl⟩
  have hGo := hGo.mono (N' := K) (fun h hh => by rw [← hK]; exact List.mem_append_left _ hh)
  rw [hK]
  refine ⟨?_⟩
  simp (config := { maxSteps := 4000000 }) only [↓sx0, ↓sx1, ↓sx2, ↓sx3, ↓sx4, ↓sx5, ↓sx6, sx0, sx1, sx2, sx3, sx4, sx5, sx6, tf10, ev3_hold, sxo, sxc, sxp, sxq, sxr, sxs, sxl, sxm, simprocAttr]
  refine cut_constH [(26, 31)] (fun _ : Unit => [(31, .bool false)]) (fun _ H2 => H2 = K) ?_ ?_
  · rcases hee with h | h
    · have z : (e = 0) = True := eq_true h
      refine ⟨?_⟩
      simp (config := { maxSteps := 4000000 }) only [↓sx0, ↓sx1, ↓sx2, ↓sx3, ↓sx4, ↓sx5, ↓sx6, sx0, sx1, sx2, sx3, sx4, sx5, sx6, tf10, ev3_hold, sxo, sxc, sxp, sxq, sxr, sxs, sxl, sxm, simprocAttr, z]
      exact ⟨(), _, HImp.refl _ _, rfl⟩
    · have z : (e = 0) = False := eq_false (by omega)
      have z2 : (e != 3) = false := by rw [h]; rfl
      refine ⟨?_⟩
      simp (config := { maxSteps := 4000000 }) only [↓sx0, ↓sx1, ↓sx2, ↓sx3, ↓sx4, ↓sx5, ↓sx6, sx0, sx1, sx2, sx3, sx4, sx5, sx6, tf10, ev3_hold, sxo, sxc, sxp, sxq, sxr, sxs, sxl, sxm, simprocAttr, z, z2]
      exact ⟨(), _, HImp.refl _ _, rfl⟩
  rintro _ H2 g2 rfl
  refine ⟨?_⟩
  simp (config := { maxSteps := 4000000 }) only [↓sx0, ↓sx1, ↓sx2, ↓sx3, ↓sx4, ↓sx5, ↓sx6, sx0, sx1, sx2, sx3, sx4, sx5, sx6, tf10, ev3_hold, sxo, sxc, sxp, sxq, sxr, sxs, sxl, sxm, simprocAttr, dn]
  refine CallOb.pureH (fun w' hp => hcd _ w' hp) ?_
  intro q N4 hq
  have hq := hcdP q N4 hq
  obtain ⟨xc, f, hq, hf⟩ := hq
  subst hq
  obtain ⟨K2, hK2⟩ : ∃ K2, N4 ++ H2 = K2 := ⟨_, rfl⟩
  have hGo := hGo.mono (N' := K2) (fun h hh => by rw [← hK2]; exact List.mem_append_right _ hh)
  have hrG := fun (H : List HO) (hm : ∀ h ∈ K2, h ∈ H) => hGo.rdv (w0 := ⟨w, fun _ => False⟩) i1_len hm
  rw [hK2]
  refine ⟨?_⟩
  simp (config := { maxSteps := 4000000 }) only [↓sx0, ↓sx1, ↓sx2, ↓sx3, ↓sx4, ↓sx5, ↓sx6, sx0, sx1, sx2, sx3, sx4, sx5, sx6, tf10, ev3_hold, sxo, sxc, sxp, sxq, sxr, sxs, sxl, sxm, simprocAttr]
  refine loop_constH K2 (HImp.refl _ _) [(4, 4), (9, 10), (37, 62)] (fun i : Nat => [(9, I (usd (r.take i))), (10, I i)]) (fun i H1 => i ≤ r.length ∧ H1 = K2) (fun i => r.length - i) 0 ?_ ⟨Nat.zero_le _, rfl⟩ ?_
  · simp (config := { maxSteps := 4000000 }) only [↓sx0, ↓sx1, ↓sx2, ↓sx3, ↓sx4, ↓sx5, ↓sx6, sx0, sx1, sx2, sx3, sx4, sx5, sx6, tf10, ev3_hold, sxo, sxc, sxp, sxq, sxr, sxs, sxl, sxm, simprocAttr]
    try simp [usd]
  rintro i H1 g3 ⟨hi, rfl⟩
  by_cases hin : i = r.length
  case neg =>
    have e7 : ((i : Int) < (r.length : Int)) = True := eq_true (by omega)
    have e8 : wr (i + 1) = ((i + 1 : Nat) : Int) := (wrap_id (by omega)).trans (by omega)
    obtain ⟨x, hx⟩ : ∃ x, r[i]? = some x := ⟨_, List.getElem?_eq_getElem (by omega)⟩
    have hzx : (zs r)[i]? = some (x : Int) := by
      unfold zs
      rw [List.getElem?_map, hx]
      rfl
    have hxo := hord i x hx
    have hut := usd_take_le (l := r) i
    have hus : usd (r.take (i + 1)) = max (usd (r.take i)) (x + 1) := by rw [List.take_add_one, hx]; exact usd_snoc _ _
    have f1 : ((x : Int) < 0) = False := eq_false (by omega)
    have f2 : ((x : Int) > ((usd (r.take i) : Nat) : Int)) = False := eq_false (by omega)
    have f3 : wr ((x : Int) + 1) = ((x + 1 : Nat) : Int) := (wrap_id (by omega)).trans (by omega)
    have f4 : max ((usd (r.take i) : Nat) : Int) ((x + 1 : Nat) : Int) = ((usd (r.take (i + 1)) : Nat) : Int) := by rw [hus]; omega
    refine ⟨?_⟩
    simp (config := { maxSteps := 4000000 }) only [↓sx0, ↓sx1, ↓sx2, ↓sx3, ↓sx4, ↓sx5, ↓sx6, sx0, sx1, sx2, sx3, sx4, sx5, sx6, tf10, ev3_hold, sxo, sxc, sxp, sxq, sxr, sxs, sxl, sxm, simprocAttr, e7]
    refine amid (at_1 (hrG _ fun h hh => hh) i1_len hzx rfl fun ad => ?_)
    simp (config := { maxSteps := 4000000 }) only [↓sx0, ↓sx1, ↓sx2, ↓sx3, ↓sx4, ↓sx5, ↓sx6, sx0, sx1, sx2, sx3, sx4, sx5, sx6, tf10, ev3_hold, sxo, sxc, sxp, sxq, sxr, sxs, sxl, sxm, simprocAttr, f1]
    refine at_1 (hrG _ fun h hh => hh) i1_len hzx rfl fun ad => ?_
    simp (config := { maxSteps := 4000000 }) only [↓sx0, ↓sx1, ↓sx2, ↓sx3, ↓sx4, ↓sx5, ↓sx6, sx0, sx1, sx2, sx3, sx4, sx5, sx6, tf10, ev3_hold, sxo, sxc, sxp, sxq, sxr, sxs, sxl, sxm, simprocAttr, f2]
    refine at_1 (hrG _ fun h hh => hh) i1_len hzx rfl fun ad => ?_
    simp (config := { maxSteps := 4000000 }) only [↓sx0, ↓sx1, ↓sx2, ↓sx3, ↓sx4, ↓sx5, ↓sx6, sx0, sx1, sx2, sx3, sx4, sx5, sx6, tf10, ev3_hold, sxo, sxc, sxp, sxq, sxr, sxs, sxl, sxm, simprocAttr, f3, f4, e8]
    exact ⟨i + 1, _, ⟨rfl, rfl⟩, HImp.refl _ _, ⟨by omega, rfl⟩, by omega⟩
  have e7 : ((i : Int) < (r.length : Int)) = False := eq_false (by omega)
  have htr : r.take i = r := List.take_of_length_le (by omega)
  rw [htr]
  obtain ⟨u, hu⟩ : ∃ u, usd r = u := ⟨_, rfl⟩
  rw [hu] at hu12 hyes ⊢
  have hjn1 := fun (hl : r.length ≤ d.rs.length) => hjn (.slice ao r.length co) r hl u (by omega)
  refine ⟨?_⟩
  simp (config := { maxSteps := 4000000 }) only [↓sx0, ↓sx1, ↓sx2, ↓sx3, ↓sx4, ↓sx5, ↓sx6, sx0, sx1, sx2, sx3, sx4, sx5, sx6, tf10, ev3_hold, sxo, sxc, sxp, sxq, sxr, sxs, sxl, sxm, simprocAttr, e7]
  refine cut_constH [(63, 87)] (fun _ : Unit => [(87, .bool false)]) (fun _ H3 => H3 = H1) ?_ ?_
  · by_cases h : e = 0
    case neg =>
      have z : (e = 0) = False := eq_false h
      refine ⟨?_⟩
      simp (config := { maxSteps := 4000000 }) only [↓sx0, ↓sx1, ↓sx2, ↓sx3, ↓sx4, ↓sx5, ↓sx6, sx0, sx1, sx2, sx3, sx4, sx5, sx6, tf10, ev3_hold, sxo, sxc, sxp, sxq, sxr, sxs, sxl, sxm, simprocAttr, z]
      exact ⟨(), _, HImp.refl _ _, rfl⟩
    have z : (e = 0) = True := eq_true h
    obtain ⟨hrl, hrj, hr1⟩ := hyes h
    have hjn1 := hjn1 (by omega)
    rw [hrj] at hjn1
    have z2 : ((r.length : Int) = (d.rs.length : Int)) = True := eq_true (by omega)
    have z3 : ((r.length : Int) != (d.rs.length : Int)) = false := by rw [hrl, bne_self_eq_false]
    refine ⟨?_⟩
    simp (config := { maxSteps := 4000000 }) only [↓sx0, ↓sx1, ↓sx2, ↓sx3, ↓sx4, ↓sx5, ↓sx6, sx0, sx1, sx2, sx3, sx4, sx5, sx6, tf10, ev3_hold, sxo, sxc, sxp, sxq, sxr, sxs, sxl, sxm, simprocAttr, z, z2, z3, dn]
    refine CallOb.pureH (fun w' hp => hjn1 _ w' hp (hGo.hp (fun h hh => hh) hp)) ?_
    rintro q N5 rfl
    rcases hf with ⟨hf, hl⟩ | hf
    · have z4 : (f = 0) = True := eq_true hf
      have hr1 := hr1 hl
      have z5 : ((u : Int) > 1) = False := eq_false (by omega)
      refine ⟨?_⟩
      simp (config := { maxSteps := 4000000 }) only [↓sx0, ↓sx1, ↓sx2, ↓sx3, ↓sx4, ↓sx5, ↓sx6, sx0, sx1, sx2, sx3, sx4, sx5, sx6, tf10, ev3_hold, sxo, sxc, sxp, sxq, sxr, sxs, sxl, sxm, simprocAttr, z4, z5]
      exact ⟨(), _, HImp.app _ _ _, rfl⟩
    · have z4 : (f = 0) = False := eq_false (by omega)
      refine ⟨?_⟩
      simp (config := { maxSteps := 4000000 }) only [↓sx0, ↓sx1, ↓sx2, ↓sx3, ↓sx4, ↓sx5, ↓sx6, sx0, sx1, sx2, sx3, sx4, sx5, sx6, tf10, ev3_hold, sxo, sxc, sxp, sxq, sxr, sxs, sxl, sxm, simprocAttr, z4]
      exact ⟨(), _, HImp.app _ _ _, rfl⟩
  rintro _ H3 g4 rfl
  refine ⟨?_⟩
  simp (config := { maxSteps := 4000000 }) only [↓sx0, ↓sx1, ↓sx2, ↓sx3, ↓sx4, ↓sx5, ↓sx6, sx0, sx1, sx2, sx3, sx4, sx5, sx6, tf10, ev3_hold, sxo, sxc, sxp, sxq, sxr, sxs, sxl, sxm, simprocAttr]
  refine loop_constH H3 (HImp.refl _ _) [(4, 4), (11, 12), (88, 116)] (fun q : Nat × Nat => [(11, I q.2), (12, I q.1)]) (fun q H4 => q.1 ≤ L.length ∧ H4 = H3 ∧ ∃ o : List Nat, L.take q.1 = zs o ∧ (∀ x ∈ o, x < d.rs.length) ∧ q.2 = usd o) (fun q => L.length - q.1) (0, 0) ?_ ⟨Nat.zero_le _, rfl, [], rfl, (fun x h => by cases h), rfl⟩ ?_
  · simp (config := { maxSteps := 4000000 }) only [↓sx0, ↓sx1, ↓sx2, ↓sx3, ↓sx4, ↓sx5, ↓sx6, sx0, sx1, sx2, sx3, sx4, sx5, sx6, tf10, ev3_hold, sxo, sxc, sxp, sxq, sxr, sxs, sxl, sxm, simprocAttr]
    try simp
  rintro ⟨i, less⟩ H4 g5 hinv
  simp only [] at hinv
  obtain ⟨hi, rfl, o, hto, hox, hle⟩ := hinv
  have hol : o.length = i := by
    have := congrArg List.length hto
    rw [List.length_take, zs_len] at this
    omega
  have hub : usd o ≤ d.rs.length := usd_le hox
  subst hle
  by_cases hin : i = L.length
  case neg =>
    have e9 : ((i : Int) < (L.length : Int)) = True := eq_true (by omega)
    have e8 : wr (i + 1) = ((i + 1 : Nat) : Int) := (wrap_id (by omega)).trans (by omega)
    obtain ⟨x, hx⟩ : ∃ x, L[i]? = some x := ⟨_, List.getElem?_eq_getElem (by omega)⟩
    by_cases h0 : x < 0
    · have f1 : (x < 0) = True := eq_true h0
      refine ⟨?_⟩
      simp (config := { maxSteps := 4000000 }) only [↓sx0, ↓sx1, ↓sx2, ↓sx3, ↓sx4, ↓sx5, ↓sx6, sx0, sx1, sx2, sx3, sx4, sx5, sx6, tf10, ev3_hold, sxo, sxc, sxp, sxq, sxr, sxs, sxl, sxm, simprocAttr, e9]
      refine amid (at_1 (hrL _) i1_len hx rfl fun ad => ?_)
      simp (config := { maxSteps := 4000000 }) only [↓sx0, ↓sx1, ↓sx2, ↓sx3, ↓sx4, ↓sx5, ↓sx6, sx0, sx1, sx2, sx3, sx4, sx5, sx6, tf10, ev3_hold, sxo, sxc, sxp, sxq, sxr, sxs, sxl, sxm, simprocAttr, f1, dn]
      refine CallOb.pureH (fun w' hp => hwk _ w' hp) ?_
      rintro q N9 rfl
      refine ⟨?_⟩
      simp (config := { maxSteps := 4000000 }) only [↓sx0, ↓sx1, ↓sx2, ↓sx3, ↓sx4, ↓sx5, ↓sx6, sx0, sx1, sx2, sx3, sx4, sx5, sx6, tf10, ev3_hold, sxo, sxc, sxp, sxq, sxr, sxs, sxl, sxm, simprocAttr]
    have f1 : (x < 0) = False := eq_false h0
    by_cases h1 : x ≥ (d.rs.length : Int)
    · have f2 : (x ≥ (d.rs.length : Int)) = True := eq_true h1
      refine ⟨?_⟩
      simp (config := { maxSteps := 4000000 }) only [↓sx0, ↓sx1, ↓sx2, ↓sx3, ↓sx4, ↓sx5, ↓sx6, sx0, sx1, sx2, sx3, sx4, sx5, sx6, tf10, ev3_hold, sxo, sxc, sxp, sxq, sxr, sxs, sxl, sxm, simprocAttr, e9]
      refine amid (at_1 (hrL _) i1_len hx rfl fun ad => ?_)
      simp (config := { maxSteps := 4000000 }) only [↓sx0, ↓sx1, ↓sx2, ↓sx3, ↓sx4, ↓sx5, ↓sx6, sx0, sx1, sx2, sx3, sx4, sx5, sx6, tf10, ev3_hold, sxo, sxc, sxp, sxq, sxr, sxs, sxl, sxm, simprocAttr, f1]
      refine at_1 (hrL _) i1_len hx rfl fun ad => ?_
      simp (config := { maxSteps := 4000000 }) only [↓sx0, ↓sx1, ↓sx2, ↓sx3, ↓sx4, ↓sx5, ↓sx6, sx0, sx1, sx2, sx3, sx4, sx5, sx6, tf10, ev3_hold, sxo, sxc, sxp, sxq, sxr, sxs, sxl, sxm, simprocAttr, f2, dn]
      refine CallOb.pureH (fun w' hp => hwk _ w' hp) ?_
      rintro q N9 rfl
      refine ⟨?_⟩
      simp (config := { maxSteps := 4000000 }) only [↓sx0, ↓sx1, ↓sx2, ↓sx3, ↓sx4, ↓sx5, ↓sx6, sx0, sx1, sx2, sx3, sx4, sx5, sx6, tf10, ev3_hold, sxo, sxc, sxp, sxq, sxr, sxs, sxl, sxm, simprocAttr]
    have f2 : (x ≥ (d.rs.length : Int)) = False := eq_false h1
    obtain ⟨x0, hx0⟩ : ∃ x0 : Nat, x = x0 := ⟨x.toNat, by omega⟩
    subst hx0
    have f3 : wr ((x0 : Int) + 1) = ((x0 + 1 : Nat) : Int) := (wrap_id (by omega)).trans (by omega)
    have f4 : max ((usd o : Nat) : Int) ((x0 + 1 : Nat) : Int) = ((usd (o ++ [x0]) : Nat) : Int) := by rw [usd_snoc]; omega
    refine ⟨?_⟩
    simp (config := { maxSteps := 4000000 }) only [↓sx0, ↓sx1, ↓sx2, ↓sx3, ↓sx4, ↓sx5, ↓sx6, sx0, sx1, sx2, sx3, sx4, sx5, sx6, tf10, ev3_hold, sxo, sxc, sxp, sxq, sxr, sxs, sxl, sxm, simprocAttr, e9]
    refine amid (at_1 (hrL _) i1_len hx rfl fun ad => ?_)
    simp (config := { maxSteps := 4000000 }) only [↓sx0, ↓sx1, ↓sx2, ↓sx3, ↓sx4, ↓sx5, ↓sx6, sx0, sx1, sx2, sx3, sx4, sx5, sx6, tf10, ev3_hold, sxo, sxc, sxp, sxq, sxr, sxs, sxl, sxm, simprocAttr, f1]
    refine at_1 (hrL _) i1_len hx rfl fun ad => ?_
    simp (config := { maxSteps := 4000000 }) only [↓sx0, ↓sx1, ↓sx2, ↓sx3, ↓sx4, ↓sx5, ↓sx6, sx0, sx1, sx2, sx3, sx4, sx5, sx6, tf10, ev3_hold, sxo, sxc, sxp, sxq, sxr, sxs, sxl, sxm, simprocAttr, f2]
    refine at_1 (hrL _) i1_len hx rfl fun ad => ?_
    simp (config := { maxSteps := 4000000 }) only [↓sx0, ↓sx1, ↓sx2, ↓sx3, ↓sx4, ↓sx5, ↓sx6, sx0, sx1, sx2, sx3, sx4, sx5, sx6, tf10, ev3_hold, sxo, sxc, sxp, sxq, sxr, sxs, sxl, sxm, simprocAttr, f3, f4, e8]
    refine ⟨(i + 1, usd (o ++ [x0])), _, ⟨rfl, rfl⟩, HImp.refl _ _, ⟨by simp only []; omega, rfl, o ++ [x0], ?_, fun y hy => ?_, rfl⟩, by simp only []; omega⟩
    · rw [List.take_add_one, hx, hto, zs_app]
      rfl
    · rcases List.mem_append.1 hy with h | h
      · exact hox y h
      · rw [List.mem_singleton.1 h]
        omega
  have e9 : ((i : Int) < (L.length : Int)) = False := eq_false (by omega)
  have hLo : L = zs o := by rw [← hto, hin, List.take_length]
  have hjn2 := fun (hl : o.length ≤ d.rs.length) => hjn (.slice aL L.length cL) o hl (usd o) (by omega)
  have hfull := hfull e r o he
  rw [hu] at hfull
  have hLL : ∀ w', Sl w' (.slice aL L.length cL) 1 (ints L) → Sl w' (.slice aL L.length cL) 1 (ints (zs o)) := fun w' h => by rwa [hLo, zs_len, ← hLo] at h ⊢
  by_cases hlm : L.length = d.rs.length
  case neg =>
    have z1 : ((L.length : Int) != (d.rs.length : Int)) = true := bne_iff_ne.2 (by omega)
    have z2 : ((L.length : Int) = (d.rs.length : Int)) = False := eq_false (by omega)
    refine ⟨?_⟩
    simp (config := { maxSteps := 4000000 }) only [↓sx0, ↓sx1, ↓sx2, ↓sx3, ↓sx4, ↓sx5, ↓sx6, sx0, sx1, sx2, sx3, sx4, sx5, sx6, tf10, ev3_hold, sxo, sxc, sxp, sxq, sxr, sxs, sxl, sxm, simprocAttr, e9, z1, z2, dn]
    refine CallOb.pureH (fun w' hp => hwk _ w' hp) ?_
    rintro q N9 rfl
    refine ⟨?_⟩
    simp (config := { maxSteps := 4000000 }) only [↓sx0, ↓sx1, ↓sx2, ↓sx3, ↓sx4, ↓sx5, ↓sx6, sx0, sx1, sx2, sx3, sx4, sx5, sx6, tf10, ev3_hold, sxo, sxc, sxp, sxq, sxr, sxs, sxl, sxm, simprocAttr]
  have z1 : ((L.length : Int) != (d.rs.length : Int)) = false := by rw [hlm, bne_self_eq_false]
  have z2 : ((L.length : Int) = (d.rs.length : Int)) = True := eq_true (by omega)
  by_cases hl0 : L.length = 0
  · have z3 : ((L.length : Int) = 0) = True := eq_true (by omega)
    refine ⟨?_⟩
    simp (config := { maxSteps := 4000000 }) only [↓sx0, ↓sx1, ↓sx2, ↓sx3, ↓sx4, ↓sx5, ↓sx6, sx0, sx1, sx2, sx3, sx4, sx5, sx6, tf10, ev3_hold, sxo, sxc, sxp, sxq, sxr, sxs, sxl, sxm, simprocAttr, e9, z1, z2, z3, dn]
    refine CallOb.pureH (fun w' hp => hwk _ w' hp) ?_
    rintro q N9 rfl
    refine ⟨?_⟩
    simp (config := { maxSteps := 4000000 }) only [↓sx0, ↓sx1, ↓sx2, ↓sx3, ↓sx4, ↓sx5, ↓sx6, sx0, sx1, sx2, sx3, sx4, sx5, sx6, tf10, ev3_hold, sxo, sxc, sxp, sxq, sxr, sxs, sxl, sxm, simprocAttr]
  have z3 : ((L.length : Int) = 0) = False := eq_false (by omega)
  have hjn2 := hjn2 (by omega)
  have hfull := hfull (by omega) hox
  obtain ⟨B, hB⟩ : ∃ B, jnB d.canB o (usd o) = B := ⟨_, rfl⟩
  rw [hB] at hjn2 hfull
  refine ⟨?_⟩
  simp (config := { maxSteps := 4000000 }) only [↓sx0, ↓sx1, ↓sx2, ↓sx3, ↓sx4, ↓sx5, ↓sx6, sx0, sx1, sx2, sx3, sx4, sx5, sx6, tf10, ev3_hold, sxo, sxc, sxp, sxq, sxr, sxs, sxl, sxm, simprocAttr, e9, z1, z2, z3, dn]
  refine CallOb.pureH (fun w' hp => hjn2 _ w' hp (hLL w' (hL0.hp (fun _ _ => id) hp))) ?_
  rintro q N7 rfl
  cases B with
  | false =>
    refine ⟨?_⟩
    simp (config := { maxSteps := 4000000 }) only [↓sx0, ↓sx1, ↓sx2, ↓sx3, ↓sx4, ↓sx5, ↓sx6, sx0, sx1, sx2, sx3, sx4, sx5, sx6, tf10, ev3_hold, sxo, sxc, sxp, sxq, sxr, sxs, sxl, sxm, simprocAttr, dn]
    refine CallOb.pureH (fun w' hp => hwk _ w' hp) ?_
    rintro q N9 rfl
    refine ⟨?_⟩
    simp (config := { maxSteps := 4000000 }) only [↓sx0, ↓sx1, ↓sx2, ↓sx3, ↓sx4, ↓sx5, ↓sx6, sx0, sx1, sx2, sx3, sx4, sx5, sx6, tf10, ev3_hold, sxo, sxc, sxp, sxq, sxr, sxs, sxl, sxm, simprocAttr]
  | true =>
    obtain ⟨h0, h1⟩ := hfull rfl
    have z4 : (e = 0) = True := eq_true h0
    have z5 : ((u : Int) ≤ ((usd o : Nat) : Int)) = True := eq_true (by omega)
    refine ⟨?_⟩
    simp (config := { maxSteps := 4000000 }) only [↓sx0, ↓sx1, ↓sx2, ↓sx3, ↓sx4, ↓sx5, ↓sx6, sx0, sx1, sx2, sx3, sx4, sx5, sx6, tf10, ev3_hold, sxo, sxc, sxp, sxq, sxr, sxs, sxl, sxm, simprocAttr, z4, z5, dn]
    refine CallOb.pureH (fun w' hp => hwk _ w' hp) ?_
    rintro q N9 rfl
    refine ⟨?_⟩
    simp (config := { maxSteps := 4000000 }) only [↓sx0, ↓sx1, ↓sx2, ↓sx3, ↓sx4, ↓sx5, ↓sx6, sx0, sx1, sx2, sx3, sx4, sx5, sx6, tf10, ev3_hold, sxo, sxc, sxp, sxq, sxr, sxs, sxl, sxm, simprocAttr]
end Go.Proofs.YtaloedccoadedaaDoor
