/- The free operations: one theorem. -/
import Derived.Test.YtpfbpelkodlljaaSxC
set_option linter.all false
namespace Go.SX
open Go.RowKit

/-- Reads of memory. -/
def isLoad : Op → Bool
  | .load .. => true
  | _ => false

/-- What the machine reckons of an operation that turns nothing: its value, in every world in which the walk's facts hold, or more. -/
def Gives (E : Env) (fr : List SV) (L : List Box) (H : List HO) (op : Op) (s : SV) : Prop :=
  ∀ (bs : Nat → Nat) (ks : List (Nat × Obj)) (L' : List Box) (H' : List HO) (w : World) (ρ : Operand → Value) (o : Oper), Rel E.w0 bs ks L' H' w → (isLoad op = true → L <+: L' ∧ ∀ x ∈ H, x ∈ H') →
    (∀ x ∈ op.operands, ρ x = (op1 fr x).real bs) → o.op = op → (execOp ρ o).run E.P w = .ok (.value (s.real bs)) w

theorem withV_op {fr : List SV} {x : Operand} {K : Value → Prop} (h : withV (op1 fr x) K) : ∃ v, (∀ bs, (op1 fr x).real bs = v) ∧ K v := withV_iff h

theorem mem_ops {α : Type} [DecidableEq α] (x : α) (l : List α) (h : l.contains x = true) : x ∈ l := by simpa using h

theorem build_run {P : Program} {T : TypeId} {pl : List (Nat × Nat)} {z cs : List Value} {ps : List (Nat × Value)} (hp : placesT P T = some pl) (hz : zeroT P T = some z) (hf : fillS pl z ps = some cs) (w : World) :
    (Instr.build T ps.toArray).run P w = .ok (.agg cs.toArray) w := by
  unfold placesT at hp
  split at hp
  · rename_i fs hu
    split at hp
    case isFalse => cases hp
    rename_i hall
    simp only [Option.some.injEq] at hp
    have hfs : ∀ f ∈ fs, (P.info? f.type).isSome = true := fun f hf => (Array.all_eq_true_iff_forall_mem.1 hall) f hf
    have hz' : ∃ v, (zeroValue T).run P w = .ok v w ∧ v.cells.toList = z := by
      unfold zeroT at hz
      cases hi : P.info? T with
      | none => simp [hi] at hz
      | some i =>
        simp only [hi] at hz
        cases hv : i.zero with
        | none => simp [hv] at hz
        | some v => simp [hv] at hz; exact ⟨v, by simp [zeroValue, typeInfo, hi, hv], hz⟩
    obtain ⟨v, hv, hvz⟩ := hz'
    have hmap : ∀ (l : List Field) (w : World), (∀ f ∈ l, (P.info? f.type).isSome = true) → (l.mapM (m := Sem) fun f => do pure (f.offset, ← sizeOf f.type)).run P w = .ok (l.map fun f => (f.offset, P.cellsOf f.type)) w := by
      intro l
      induction l with
      | nil => intro w _; simp
      | cons f l ih =>
        intro w hl
        obtain ⟨i, hi⟩ := Option.isSome_iff_exists.1 (hl f (by simp))
        simp only [List.mapM_cons, Sem.run_bind, run_sizeOf w hi, Result.andThen_ok, Sem.run_pure, ih w fun g hg => hl g (by simp [hg]), List.map_cons]
    have hm2 : (fs.mapM (m := Sem) fun f => do pure (f.offset, ← sizeOf f.type)).run P w = .ok pl.toArray w := by
      have hmf := hmap fs.toList w (fun f hf => hfs f (Array.mem_toList_iff.1 hf))
      rw [← Array.toArray_toList (xs := fs), List.mapM_toArray]
      simp only [Sem.run_map, hmf, Result.andThen_ok, hp]
    have hfill := fillS_fill pl ps z cs hf
    have hvc : v.cells = z.toArray := by rw [← hvz]
    simp only [Instr.build, Sem.run_bind, hv, Result.andThen_ok, run_underlying hu, hm2, hvc, hfill, Sem.run_pure]
  · cases hp

theorem free_move {E : Env} {fr : List SV} {L : List Box} {H : List HO} (x : Operand) : Gives E fr L H (.move x) (op1 fr x) := fun bs ks L' H' w ρ o _ _ he ho => by
  simp [execOp, ho, he x (by simp [Op.operands])]

theorem free_assign {E : Env} {fr : List SV} {L : List Box} {H : List HO} (x : Operand) : Gives E fr L H (.assign x) (op1 fr x) := fun bs ks L' H' w ρ o _ _ he ho => by
  simp [execOp, ho, he x (by simp [Op.operands])]

/-- The program's tables are whole where the walk leans on them. -/
def Env.Fine (_ : Env) : Prop := True

theorem blt_sound {E : Env} {fr : List SV} {L : List Box} {H : List HO} {c : Call} {K : SV → Prop} (h : bltS E.P (op1 fr) c.callee c.args.toList c.argTypes.toList K) :
    ∃ s, K s ∧ (∀ n, s.wf n) ∧ Gives E fr L H (.call c) s := by
  obtain ⟨ce, ⟨as⟩, ⟨ts⟩⟩ := c
  simp only [] at h
  unfold bltS at h
  split at h
  · rename_i x T
    obtain ⟨hT, h⟩ := h
    obtain ⟨vx, hx, h⟩ := withV_iff h
    unfold lenS at h
    split at h
    · rename_i a n m
      refine ⟨_, h, fun n => trivial, fun bs ks L' H' w ρ o _ _ he ho => ?_⟩
      obtain ⟨⟨e, sz⟩, hs⟩ := Option.isSome_iff_exists.1 hT
      obtain ⟨i, hu, _⟩ := slT_some hs
      have h1 := he x (by simp [Op.operands, Call.operands])
      rw [hx bs] at h1
      simp only [execOp, ho, resolve, invoke, builtin, List.map_toArray, List.map_cons, List.map_nil, h1, Sem.run_bind, Sem.run_pure, Result.andThen_ok]
      simp [Builtin.len_, run_underlying hu, SV.real, goInt]
    · exact h.elim
  · rename_i x T
    obtain ⟨hT, h⟩ := h
    obtain ⟨vx, hx, h⟩ := withV_iff h
    unfold capS at h
    split at h
    · rename_i a n m
      refine ⟨_, h, fun n => trivial, fun bs ks L' H' w ρ o _ _ he ho => ?_⟩
      obtain ⟨⟨e, sz⟩, hs⟩ := Option.isSome_iff_exists.1 hT
      obtain ⟨i, hu, _⟩ := slT_some hs
      have h1 := he x (by simp [Op.operands, Call.operands])
      rw [hx bs] at h1
      simp only [execOp, ho, resolve, invoke, builtin, List.map_toArray, List.map_cons, List.map_nil, h1, Sem.run_bind, Sem.run_pure, Result.andThen_ok]
      simp [Builtin.cap_, run_underlying hu, SV.real, goInt]
    · exact h.elim
  · rename_i x y
    obtain ⟨vx, hx, h⟩ := withV_iff h
    obtain ⟨vy, hy, hm⟩ := withV_iff h
    clear h
    unfold mmS at hm
    split at hm
    · rename_i k a k' b
      refine ⟨_, hm, fun n => trivial, fun bs ks L' H' w ρ o _ _ he ho => ?_⟩
      have h1 := he x (by simp [Op.operands, Call.operands])
      have h2 := he y (by simp [Op.operands, Call.operands])
      rw [hx bs] at h1
      rw [hy bs] at h2
      have hmm : (if b > a then b else a) = max a b := by omega
      simp only [execOp, ho, resolve, invoke, builtin, List.map_toArray, List.map_cons, List.map_nil, h1, h2, Builtin.max_, Sem.run_bind, Sem.run_pure, Result.andThen_ok, List.foldlM_cons, List.foldlM_nil, Builtin.max2, SV.real, hmm, cond_true]
    · exact hm.elim
  · rename_i x y
    obtain ⟨vx, hx, h⟩ := withV_iff h
    obtain ⟨vy, hy, hm⟩ := withV_iff h
    clear h
    unfold mmS at hm
    split at hm
    · rename_i k a k' b
      refine ⟨_, hm, fun n => trivial, fun bs ks L' H' w ρ o _ _ he ho => ?_⟩
      have h1 := he x (by simp [Op.operands, Call.operands])
      have h2 := he y (by simp [Op.operands, Call.operands])
      rw [hx bs] at h1
      rw [hy bs] at h2
      have hmm : (if b < a then b else a) = min a b := by omega
      simp only [execOp, ho, resolve, invoke, builtin, List.map_toArray, List.map_cons, List.map_nil, h1, h2, Builtin.min_, Sem.run_bind, Sem.run_pure, Result.andThen_ok, List.foldlM_cons, List.foldlM_nil, Builtin.min2, SV.real, hmm, cond_false]
    · exact hm.elim
  · exact h.elim

theorem free_sound {E : Env} (hE : E.Fine) {fr : List SV} {L : List Box} {H : List HO} {op : Op} {K : SV → Prop} (h : freeOp E fr L H op K) :
    ∃ s, K s ∧ (∀ n, WfFr n fr → s.wf n) ∧ Gives E fr L H op s := by
  unfold freeOp at h
  split at h
  · rename_i x
    exact ⟨_, h, fun n hw => op1_wf hw x, free_move x⟩
  · rename_i x
    exact ⟨_, h, fun n hw => op1_wf hw x, free_assign x⟩
  · rename_i c a b
    unfold pickS at h
    split at h
    · rename_i t hc
      refine ⟨_, h, fun n hw => ?_, fun bs ks L' H' w ρ o _ _ he ho => ?_⟩
      · cases t
        · exact op1_wf hw b
        · exact op1_wf hw a
      · have h1 := he c (by simp [Op.operands])
        have h2 := he a (by simp [Op.operands])
        have h3 := he b (by simp [Op.operands])
        rw [hc] at h1
        cases t <;> simp [execOp, ho, h1, h2, h3, SV.real, asBool]
    · rename_i t hc
      obtain ⟨x, hx, h⟩ := withV_iff h
      obtain ⟨y, hy, p, q, rfl, rfl, h⟩ := withV_iff h
      refine ⟨_, h, fun n hw => trivial, fun bs ks L' H' w ρ o _ _ he ho => ?_⟩
      have h1 := he c (by simp [Op.operands])
      have h2 := he a (by simp [Op.operands])
      have h3 := he b (by simp [Op.operands])
      rw [hc] at h1
      rw [hx bs] at h2
      rw [hy bs] at h3
      cases t <;> simp [execOp, ho, h1, h2, h3, SV.real, asBool]
    · exact h.elim
  · rename_i T x
    obtain ⟨s, hK, hw, hr⟩ := ldS_sound h
    refine ⟨s, hK, fun n _ => hw n, fun bs ks L' H' w ρ o r hps he ho => ?_⟩
    have h1 := he x (by simp [Op.operands])
    simp only [execOp, ho, h1]
    exact run_v (hr bs ks L' H' w r (hps rfl).1 (hps rfl).2)
  · rename_i x
    unfold ncS at h
    split at h
    · rename_i j o' hx
      refine ⟨_, h, fun n hw => hx ▸ op1_wf hw x, fun bs ks L' H' w ρ o _ _ he ho => ?_⟩
      have h1 := he x (by simp [Op.operands])
      rw [hx] at h1
      simp only [execOp, ho, h1, SV.real]
      rfl
    · rename_i a hx
      refine ⟨_, h, fun n hw => trivial, fun bs ks L' H' w ρ o _ _ he ho => ?_⟩
      have h1 := he x (by simp [Op.operands])
      rw [hx] at h1
      simp only [execOp, ho, h1, SV.real]
      rfl
    · rename_i f p q hx
      refine ⟨_, h, fun n hw => trivial, fun bs ks L' H' w ρ o _ _ he ho => ?_⟩
      have h1 := he x (by simp [Op.operands])
      rw [hx] at h1
      simp only [execOp, ho, h1, SV.real]
      rfl
    · rename_i f p q hx
      refine ⟨_, h, fun n hw => trivial, fun bs ks L' H' w ρ o _ _ he ho => ?_⟩
      have h1 := he x (by simp [Op.operands])
      rw [hx] at h1
      simp only [execOp, ho, h1, SV.real]
      rfl
    · exact h.elim
  · rename_i op T x y yT
    obtain ⟨vx, hx, h⟩ := withV_iff h
    obtain ⟨vy, hy, h⟩ := withV_iff h
    obtain ⟨v, hK, hr⟩ := binS_sound h x y
    refine ⟨_, hK, fun n hw => trivial, fun bs ks L' H' w ρ o _ _ he ho => ?_⟩
    have h1 := he x (by simp [Op.operands])
    have h2 := he y (by simp [Op.operands])
    simp only [execOp, ho, h1, h2, hx, hy]
    exact run_v (hr w)
  · rename_i op T x
    unfold unS at h
    split at h
    · rename_i t hx
      refine ⟨_, h, fun n hw => trivial, fun bs ks L' H' w ρ o _ _ he ho => ?_⟩
      have h1 := he x (by simp [Op.operands])
      rw [hx] at h1
      simp [execOp, ho, h1, SV.real, Op.unary]
    · rename_i t hx
      refine ⟨_, h, fun n hw => trivial, fun bs ks L' H' w ρ o _ _ he ho => ?_⟩
      have h1 := he x (by simp [Op.operands])
      rw [hx] at h1
      simp [execOp, ho, h1, SV.real, Op.unary]
    · rename_i k m hx
      refine ⟨_, h, fun n hw => trivial, fun bs ks L' H' w ρ o _ _ he ho => ?_⟩
      have h1 := he x (by simp [Op.operands])
      rw [hx] at h1
      simp [execOp, ho, h1, SV.real, Op.unary, Op.intArith]
    · exact h.elim
  · rename_i s d x
    obtain ⟨vx, hx, k, k', n, hs, hd, rfl, hK⟩ := withV_iff h
    refine ⟨_, hK, fun n hw => trivial, fun bs ks L' H' w ρ o _ _ he ho => ?_⟩
    have h1 := he x (by simp [Op.operands])
    have hs' : E.P.underlying s = some (.int k) := by
      unfold intT at hs; split at hs
      · rename_i hu; simp at hs; rw [hu, hs]
      · cases hs
    have hd' : E.P.underlying d = some (.int k') := by
      unfold intT at hd; split at hd
      · rename_i hu; simp at hd; rw [hu, hd]
      · cases hd
    simp only [execOp, ho, h1, hx]
    refine run_v ?_
    simp only [convert, Sem.run_bind, run_underlying hs', run_underlying hd', Result.andThen_ok]
    rfl
  · rename_i fn xs ys
    obtain ⟨vx, hx, h⟩ := withVs_iff h
    obtain ⟨vy, hy, h⟩ := withVs_iff h
    refine ⟨_, h, fun n hw => trivial, fun bs ks L' H' w ρ o _ _ he ho => ?_⟩
    have e1 : xs.map ρ = vx.toArray := by
      apply Array.ext'
      rw [← hx bs]
      simp only [Array.toList_map, List.map_map]
      exact List.map_congr_left fun x hxm => he x (by simp [Op.operands]; exact .inl (by simpa using hxm))
    have e2 : ys.map ρ = vy.toArray := by
      apply Array.ext'
      rw [← hy bs]
      simp only [Array.toList_map, List.map_map]
      exact List.map_congr_left fun x hxm => he x (by simp [Op.operands]; exact .inr (by simpa using hxm))
    simp only [execOp, ho, e1, e2]
    exact run_v rfl
  · rename_i T x f
    unfold faS at h
    split at h
    · rename_i n j o' hf hx
      refine ⟨_, h, fun m hw => ?_, fun bs ks L' H' w ρ o _ _ he ho => ?_⟩
      · have := op1_wf hw x
        rw [hx] at this
        exact this
      · have h1 := he x (by simp [Op.operands])
        rw [hx] at h1
        simp only [execOp, ho, h1, SV.real]
        refine run_v ?_
        rw [fieldAt_run hf, add_block]
    · rename_i n a hf hx
      refine ⟨_, h, fun m hw => trivial, fun bs ks L' H' w ρ o _ _ he ho => ?_⟩
      have h1 := he x (by simp [Op.operands])
      rw [hx] at h1
      simp only [execOp, ho, h1, SV.real]
      exact run_v (fieldAt_run hf a w)
    · exact h.elim
  · rename_i T x f
    obtain ⟨vx, hx, h⟩ := withV_iff h
    unfold fldS at h
    split at h
    · rename_i o' k cs hf
      obtain ⟨fs, fd, hu, hfd, hk, rfl⟩ := fldT_some hf
      obtain ⟨v, hK, hr⟩ := part_run hk h
      refine ⟨_, hK, fun m hw => trivial, fun bs ks L' H' w ρ o _ _ he ho => ?_⟩
      have h1 := he x (by simp [Op.operands])
      simp only [execOp, ho, h1, hx]
      refine run_v ?_
      simp [Instr.field, run_underlying hu, hfd, asAgg, hr, SV.real]
    · exact h.elim
  · rename_i T x i
    obtain ⟨vi, hi, h⟩ := withV_iff h
    obtain ⟨s, hK, hw, hr⟩ := ixS_sound h
    refine ⟨s, hK, fun n hf => hw n (op1_wf hf x), fun bs ks L' H' w ρ o _ _ he ho => ?_⟩
    have h1 := he x (by simp [Op.operands])
    have h2 := he i (by simp [Op.operands])
    simp only [execOp, ho, h1, h2, hi]
    exact run_v (hr bs w)
  · rename_i T x i
    obtain ⟨vx, hx, h⟩ := withV_iff h
    obtain ⟨vi, hi, h⟩ := withV_iff h
    obtain ⟨v, hK, hr⟩ := idxS_sound h
    refine ⟨_, hK, fun n hf => trivial, fun bs ks L' H' w ρ o _ _ he ho => ?_⟩
    have h1 := he x (by simp [Op.operands])
    have h2 := he i (by simp [Op.operands])
    simp only [execOp, ho, h1, h2, hi, hx]
    exact run_v (hr w)
  · rename_i x i
    obtain ⟨vx, hx, h⟩ := withV_iff h
    unfold extS at h
    split at h
    · rename_i vs
      obtain ⟨v, hv, hK⟩ := h
      refine ⟨_, hK, fun n hf => trivial, fun bs ks L' H' w ρ o _ _ he ho => ?_⟩
      have h1 := he x (by simp [Op.operands])
      have hv' : vs[i]? = some v := by simpa using hv
      simp only [execOp, ho, h1, hx]
      refine run_v ?_
      simp [Instr.extract, hv', SV.real]
    · exact h.elim
  · rename_i T ps
    obtain ⟨xs, hx, pl, z, cs, hp, hz, hf, hK⟩ := withVs_iff h
    refine ⟨_, hK, fun n hf => trivial, fun bs ks L' H' w ρ o _ _ he ho => ?_⟩
    have e : (ps.map fun (p : Nat × Operand) => (p.1, ρ p.2)) = ((ps.toList.map (·.1)).zip xs).toArray := by
      apply Array.ext'
      rw [← hx bs]
      simp only [Array.toList_map, List.map_map]
      rw [List.zip_map', ]
      refine List.map_congr_left fun p hpm => ?_
      simp only [Function.comp]
      rw [he p.2 (by simp [Op.operands]; exact ⟨p.1, by simpa using hpm⟩)]
    simp only [execOp, ho]
    refine run_v ?_
    have e' : (ps.map fun (x : Nat × Operand) => match x with | (i, x) => (i, ρ x)) = (ps.map fun (p : Nat × Operand) => (p.1, ρ p.2)) := rfl
    rw [e', e]
    exact build_run hp hz hf w
  · rename_i T x lo hi mx
    obtain ⟨vx, hx, h⟩ := withV_iff h
    obtain ⟨vlo, hlo, h⟩ := optV_iff h
    obtain ⟨vhi, hhi, h⟩ := optV_iff h
    obtain ⟨vmx, hmx, h⟩ := optV_iff h
    obtain ⟨v, hK, hr⟩ := slS_sound h
    refine ⟨_, hK, fun n hf => trivial, fun bs ks L' H' w ρ o _ _ he ho => ?_⟩
    have h1 := he x (by simp [Op.operands])
    have hopt : ∀ y : Option Operand, (∀ z ∈ y, z ∈ (Op.slice T x lo hi mx).operands) → y.map ρ = (y.map (op1 fr)).map (SV.real bs) := by
      intro y hy
      cases y with
      | none => rfl
      | some z => simp [he z (hy z (by simp))]
    have e1 := hopt lo (by intro z hz; simp [Op.operands]; cases lo <;> simp_all)
    have e2 := hopt hi (by intro z hz; simp [Op.operands]; cases hi <;> simp_all)
    have e3 := hopt mx (by intro z hz; simp [Op.operands]; cases mx <;> simp_all)
    simp only [execOp, ho, h1, hx, e1, e2, e3, hlo, hhi, hmx]
    exact run_v (hr w)
  · rename_i c
    obtain ⟨s, hK, hr⟩ := blt_sound h
    exact ⟨s, hK, fun n hf => hr.1 n, hr.2⟩
  · exact h.elim

end Go.SX
