/- Operations that make or write memory, and calls, are the machine's. -/
import Derived.Test.YtpfbpelkodlljaaSxE
set_option linter.all false
namespace Go.SX
open Go.RowKit

theorem run_u {P : Program} {w w' : World} {s : Sem Unit} (h : s.run P w = .ok () w') : ((do s; pure Next.skip) : Sem Next).run P w = .ok .skip w' := by
  simp [h]

theorem run_v' {P : Program} {w w' : World} {s : Sem Value} {v : Value} (h : s.run P w = .ok v w') : ((do pure (Next.value (← s))) : Sem Next).run P w = .ok (.value v) w' := by
  simp [h]

theorem fence_calls {rd : Option Nat} {n : Nat} {P : Program} {f : FuncId} {args : Array Value} {w : World} {R : Ending → World → Prop} (h : Calls P f args w R) : CallsIn (fence rd) n P f args w R :=
  (callsIn_wide (n := n)).2 h

theorem fence_round {rd : Option Nat} {n : Nat} {P : Program} {l : Nat} {f : FuncId} {tmps : Array Value} {assign body : Code} {w : World} {R : Ending → World → Prop} (h : RoundIn Fence.wide n P l f tmps assign body w R) : RoundIn (fence rd) n P l f tmps assign body w R := h

section
variable {E : Env} {dr : Bool} {L : List Box} {H : List HO} {k : SV → List Box → List HO → Prop} {bs : Nat → Nat} {ks : List (Nat × Obj)} {w : World} {op : Op}

theorem Next'.newHO {w' : World} (r : Rel E.w0 bs ks L H w) (hk : Keep (fun _ => False) w w') {h : HO} (ho : h.ok w') (hn : ∀ b, h.fp b → w.heap.size ≤ b) : Next' E dr op bs bs ks L L H (h :: H) w w' :=
  ⟨⟨fun _ _ => rfl, Nat.le_refl _, Frm.new hk fun x hx b hb => by rcases List.mem_cons.1 hx with rfl | hx; exact .inr (hn b hb); exact .inl hx⟩, r.newHO hk ho hn, fun _ _ => ⟨List.prefix_refl _, fun x hx => List.mem_cons_of_mem _ hx⟩⟩

theorem newBox_sound {d : Option Nat} {T : TypeId} {cs : List Value} (h : newBox E d T cs L H k) (r : Rel E.w0 bs ks L H w) :
    ∃ s bs' L' H', k s L' H' ∧ s.wf L'.length ∧ s.real bs' = .pointer (some ⟨w.heap.size, 0, none⟩) ∧ Next' E dr op bs bs' ks L L' H H' w (w.alloc (.cells cs.toArray T)) := by
  unfold newBox at h
  split at h
  · split at h
    · exact ⟨_, bs, L, _, h w.heap.size, trivial, rfl, Next'.newHO r (Keep.alloc _ w _) (heap_alloc_new w _) fun b e => Nat.le_of_eq e.symm⟩
    · obtain ⟨bs', ha, hb, hr⟩ := r.newBox T cs
      exact ⟨_, bs', _, H, h, by simp [SV.wf], by simp [SV.real, hb], ⟨⟨ha, by simp, ⟨(Keep.alloc (fun _ => False) w _).mono fun _ h => h.elim, fun _ h => .inl h, fun _ h => .inl h, fun j hj => by
        by_cases e : j = L.length
        · subst e; exact .inr (Nat.le_of_eq hb.symm)
        · have hjl : j < L.length := by simp at hj; omega
          exact .inl ⟨j, hjl, ha j hjl⟩⟩⟩, hr, fun _ _ => ⟨List.prefix_append _ _, fun _ h => h⟩⟩⟩
  · exact h.elim

theorem storeVar_run {P : Program} {T : TypeId} {b off : Nat} {cs : Array Value} {T' : TypeId} {x : Value} (hs : szT P T = some (vcells x).length) (h1 : (vcells x).all (·.oneCell') = true) (hb : w.heap[b]? = some (.cells cs T' (0, 0)))
    (hle : off + (vcells x).length ≤ cs.size) : (storeVar T ⟨b, off, none⟩ x).run P w = .ok () (w.setRow b (cs.toList.take off ++ vcells x ++ cs.toList.drop (off + (vcells x).length)).toArray) := by
  unfold szT at hs
  cases hi : P.info? T with
  | none => simp [hi] at hs
  | some i =>
    simp only [hi, Option.map_some, Option.some.injEq] at hs
    have e : x.cells.size = i.size := by rw [hs]; simp [vcells]
    have hst := run_storeCells_at P b off T' (vcells x) 0 cs w hb (by simpa using hle) (fun v hv => List.all_eq_true.1 h1 v hv)
    simp only [Nat.add_zero] at hst
    simp only [storeVar, Sem.run_bind, run_size hi, Result.andThen_ok]
    simp only [e, ne_eq, not_true_eq_false, if_false]
    exact hst

theorem stS_sound {P : Program} {T : TypeId} {a : SV} {x : Value} {K : List Box → List HO → Prop} (hP : E.P = P) (h : stS L H (szT P T) a x K) (r : Rel E.w0 bs ks L H w) (hop : dr = true → storeLike op = true) :
    ∃ L' H' w', K L' H' ∧ (Instr.storeAt T (a.real bs) x).run P w = .ok () w' ∧ Next' E dr op bs bs ks L L' H H' w w' := by
  subst hP
  obtain ⟨hs, h1, h⟩ := h
  split at h
  · rename_i j o
    obtain ⟨hj, hle, hK⟩ := h
    obtain ⟨T', hT⟩ := boxAt_get L j hj
    have hb := r.box j T' _ hT
    have hrun := storeVar_run (P := E.P) (off := o) hs h1 hb (by simpa using hle)
    refine ⟨_, _, w.setRow (bs j) ((boxAt L j).take o ++ vcells x ++ (boxAt L j).drop (o + (vcells x).length)).toArray, hK, ?_, ⟨⟨fun _ _ => rfl, by rw [length_lset]; exact Nat.le_refl _, ⟨(Keep.setRow _).mono fun b e => .inr ⟨j, hj, e⟩, fun _ h => .inl h, fun _ h => .inl h, fun i hi => .inl ⟨i, by rwa [length_lset] at hi, rfl⟩⟩⟩, r.setBox hT (Keep.setRow _) ?_, fun e1 e2 => by rw [hop e1] at e2; cases e2⟩⟩
    · simp only [Instr.storeAt, Instr.sureAddr, SV.real, Sem.run_bind, Sem.run_pure, Result.andThen_ok]
      exact hrun
    · exact setRow_heap w _ _ _ _ _ hb
  · rename_i ad
    obtain ⟨A, hh, B, h', rfl, ⟨hfp, hw⟩, hK⟩ := h
    obtain ⟨b, off, cs, T', rfl, hb, hc, hle, hok⟩ := hw w (r.hp.ok hh (by simp))
    have hrun := storeVar_run (P := E.P) hs h1 hc hle
    have hk := Keep.setRow (w := w) (b := b) (cs.toList.take off ++ vcells x ++ cs.toList.drop (off + (vcells x).length)).toArray
    have hnd := List.pairwise_append.1 r.hp.nd
    have hnd2 := List.pairwise_cons.1 hnd.2.1
    have hsame : ∀ g ∈ A ++ B, SameOn g.fp w (w.setRow b (cs.toList.take off ++ vcells x ++ cs.toList.drop (off + (vcells x).length)).toArray) := by
      intro g hg
      refine hk.sameOn (fun c hc => HO.lt (r.hp.ok g ?_) hc) fun c hgc e => ?_
      · rcases List.mem_append.1 hg with hg | hg <;> simp [hg]
      · subst e
        rcases List.mem_append.1 hg with hg | hg
        · exact (hnd.2.2 g hg hh (by simp) _ hgc (HO.fp_of_fpx hb)).2 hb
        · exact (hnd2.1 g hg _ (HO.fp_of_fpx hb) hgc).1 hb
    have hp' : Hp E.w0 (A ++ h' :: B) (w.setRow b (cs.toList.take off ++ vcells x ++ cs.toList.drop (off + (vcells x).length)).toArray) := by
      refine ⟨hk.into r.hp.ext (fun c e => e ▸ r.hp.old hh (by simp) _ hb), fun g hg => ?_, fun g hg c hc => ?_, ?_⟩
      · rcases List.mem_append.1 hg with hg | hg
        · exact HO.stable (r.hp.ok g (by simp [hg])) (hsame g (by simp [hg]))
        · rcases List.mem_cons.1 hg with rfl | hg
          · exact hok _ (setRow_heap w _ _ _ _ _ hc) (fun c _ hne => setRow_other w b c _ hne) (by simp [World.setRow])
          · exact HO.stable (r.hp.ok g (by simp [hg])) (hsame g (by simp [hg]))
      · rcases List.mem_append.1 hg with hg | hg
        · exact r.hp.old g (by simp [hg]) c hc
        · rcases List.mem_cons.1 hg with rfl | hg
          · exact r.hp.old hh (by simp) c ((hfp c).2.1 hc)
          · exact r.hp.old g (by simp [hg]) c hc
      · refine List.pairwise_append.2 ⟨hnd.1, List.pairwise_cons.2 ⟨fun g hg c hc hc' => ⟨fun hx => (hnd2.1 g hg c ((hfp c).1.1 hc) hc').1 ((hfp c).2.1 hx), (hnd2.1 g hg c ((hfp c).1.1 hc) hc').2⟩, hnd2.2⟩, fun g hg g' hg' c hc hc' => ?_⟩
        rcases List.mem_cons.1 hg' with rfl | hg'
        · exact ⟨(hnd.2.2 g hg hh (by simp) c hc ((hfp c).1.1 hc')).1, fun hx => (hnd.2.2 g hg hh (by simp) c hc ((hfp c).1.1 hc')).2 ((hfp c).2.1 hx)⟩
        · exact hnd.2.2 g hg g' (by simp [hg']) c hc hc'
    have hfx : ∀ c, fpsx (A ++ h' :: B) c → fpsx (A ++ hh :: B) c := by
      rintro c ⟨g, hg, hc⟩
      rcases List.mem_append.1 hg with hg | hg
      · exact ⟨g, by simp [hg], hc⟩
      · rcases List.mem_cons.1 hg with rfl | hg
        · exact ⟨hh, by simp, (hfp c).2.1 hc⟩
        · exact ⟨g, by simp [hg], hc⟩
    have hff : ∀ g ∈ A ++ h' :: B, ∀ c, g.fp c → fps (A ++ hh :: B) c := fun g hg c hc => ?_
    refine ⟨_, _, _, hK, ?_, ⟨⟨fun _ _ => rfl, Nat.le_refl _, ⟨hk.mono fun c e => .inl ⟨hh, by simp, e ▸ hb⟩, fun c ⟨g, hg, hc⟩ => .inl (hff g hg c hc), fun c hc => .inl (hfx c hc), fun j hj => .inl ⟨j, hj, rfl⟩⟩⟩, r.keep hk (fun c e => ⟨hh, by simp, e ▸ hb⟩) hp' (fun g hg c hc => .inl (hff g hg c hc)), fun e1 e2 => by rw [hop e1] at e2; cases e2⟩⟩
    · simp only [Instr.storeAt, Instr.sureAddr, SV.real, Sem.run_bind, Sem.run_pure, Result.andThen_ok]
      exact hrun
    · rcases List.mem_append.1 hg with hg | hg
      · exact ⟨g, by simp [hg], hc⟩
      · rcases List.mem_cons.1 hg with rfl | hg
        · exact ⟨hh, by simp, (hfp c).1.1 hc⟩
        · exact ⟨g, by simp [hg], hc⟩
  · exact h.elim

theorem mkS_sound {P : Program} {T : TypeId} {n c : Value} (h : mkS (elT P T) n c L H k) (r : Rel E.w0 bs ks L H w) :
    ∃ v w' H', k (.v v) L H' ∧ (Instr.makeSlice T n c).run P w = .ok v w' ∧ Next' E dr op bs bs ks L L H H' w w' := by
  unfold mkS at h
  split at h
  · rename_i e sz z bytes kn n kc c hk
    obtain ⟨h0, hnc, hb, hK⟩ := h
    obtain ⟨i, zv, hu, hi, hz, rfl, hzc, rfl, hsz, hzl, hby⟩ := elT_some hk
    have hb1 : (1 : Int) ≤ i.bytes := by omega
    have hc : c ≤ c * (i.bytes : Int) := by
      have := Int.mul_le_mul_of_nonneg_left hb1 (Int.le_trans h0 hnc)
      simpa using this
    have hrun := run_make (P := P) w T e i zv hu hi hz kn kc n c h0 hnc (by rw [Int.mul_comm]; omega) (by omega)
    have hcells : zv.cells = z.toArray := by rw [← hzc]
    have hmk : madeCells zv.cells (c.toNat * i.size) = (zerosL c.toNat z).toArray := by rw [hcells, ← hzl]; exact madeCells_zerosL z c.toNat
    rw [hmk] at hrun
    refine ⟨_, _, _, hK w.heap.size, hrun, Next'.newHO r (Keep.alloc _ w _) (.inr ⟨w.heap.size, 0, n.toNat, c.toNat, _, rfl, heap_alloc_new w _, ?_, ?_, ?_, ?_, ?_⟩) fun b hb => ?_⟩
    · rw [length_zerosL, hzl]
    · omega
    · simp only [maxLen]; omega
    · simp [length_zerosL, hzl]
    · simp only [List.drop_zero]
      have : c.toNat = n.toNat + (c.toNat - n.toNat) := by omega
      rw [this, zerosL, ← List.replicate_append_replicate, List.flatten_append]
      rw [← hzl, ← length_zerosL]
      exact List.take_left
    · simp [HO.fp, Value.ownBlock] at hb; omega
  · exact h.elim

theorem fillS_fill' {pl : List (Nat × Nat)} {pf : Nat → Option (Nat × Nat)} (hpf : ∀ (i : Nat) x, pl[i]? = some x → pf i = some x) : ∀ (ps : List (Nat × Value)) (cs r : List Value), fillS pl cs ps = some r → Instr.fill pf cs.toArray ps = some r.toArray
  | [], cs, r, h => by
    simp only [fillS, Option.some.injEq] at h
    subst h
    rfl
  | (i, v) :: ps, cs, r, h => by
    have h0 := fillS_fill pl ((i, v) :: ps) cs r h
    simp only [fillS] at h
    cases hp : pl[i]? with
    | none => simp [hp] at h
    | some x =>
      obtain ⟨o, n⟩ := x
      simp only [hp] at h
      split at h
      · rename_i hc
        have ih := fillS_fill' hpf ps _ r h
        have hp' : pl.toArray[i]? = some (o, n) := by simpa using hp
        have e1 := fillS_fill pl ps _ r h
        have h1 := fillS_fill pl [(i, v)] cs _ (by simp only [fillS, hp]; rw [if_pos hc])
        simp only [Instr.fill, hp'] at h1
        simp only [Instr.fill, hpf i _ hp]
        split at h1
        · cases h1
        · rename_i hno
          rw [if_neg hno]
          simp only [Option.some.injEq] at h1
          rw [h1]
          exact ih
      · cases h

theorem bsS_sound {P : Program} {T : TypeId} {n : Nat} {ps : List (Nat × Value)} (h : bsS (elT P T) n ps L H k) (r : Rel E.w0 bs ks L H w) :
    ∃ v w' H', k (.v v) L H' ∧ (Instr.buildSlice T n ps.toArray).run P w = .ok v w' ∧ Next' E dr op bs bs ks L L H H' w w' := by
  unfold bsS at h
  split at h
  · rename_i e sz z bytes hk
    obtain ⟨hlim, cs, hfill, hK⟩ := h
    obtain ⟨i, zv, hu, hi, hz, rfl, hzc, rfl, hsz, hzl, hby⟩ := elT_some hk
    have hcells : zv.cells = z.toArray := by rw [← hzc]
    have hf := fillS_fill' (pf := fun j => some (j * i.size, i.size)) (fun j x hj => by
      rw [List.getElem?_map] at hj
      cases hr : (List.range n)[j]? with
      | none => simp [hr] at hj
      | some y =>
        have hy : y = j := by
          have := List.getElem?_range (n := n) (i := j)
          rw [List.getElem?_eq_some_iff] at hr
          obtain ⟨h1, h2⟩ := hr
          simpa using h2.symm
        simp [hr, hy] at hj
        exact congrArg some hj) ps _ _ hfill
    have hlen : cs.length = n * i.size := by
      have key : ∀ (ps : List (Nat × Value)) (c r : List Value), fillS ((List.range n).map fun j => (j * i.size, i.size)) c ps = some r → r.length = c.length := by
        intro ps
        induction ps with
        | nil => intro c r h; simp only [fillS, Option.some.injEq] at h; rw [h]
        | cons p ps ih =>
          intro c r h
          obtain ⟨j, v⟩ := p
          simp only [fillS] at h
          split at h
          · split at h
            · rename_i hc
              rw [ih _ _ h]
              simp only [List.length_append, List.length_take, List.length_drop]
              omega
            · cases h
          · cases h
      rw [key ps _ _ hfill, length_zerosL, hzl]
    have hmk : ∀ zz : Array Value, (n * i.size = 0 ∨ zz = z.toArray) → (Array.range (n * i.size)).map (fun x => zz[x % zz.size]!) = (zerosL n z).toArray := by
      intro zz hzz
      by_cases h0 : n * i.size = 0
      · have : zerosL n z = [] := List.eq_nil_of_length_eq_zero (by rw [length_zerosL, hzl, h0])
        rw [this, h0]
        simp
      · rcases hzz with hzz | rfl
        · exact absurd hzz h0
        · rw [← madeCells_zerosL, hzl]
          rfl
    have hrun : (Instr.buildSlice T n ps.toArray).run P w = .ok (.slice (some ⟨w.heap.size, 0, none⟩) n n) (w.alloc (.cells cs.toArray e)) := by
      have hlim' : ¬ 2 ^ 24 < n * i.size := by omega
      by_cases h0 : n * i.size = 0
      · have h1 : zerosL n z = [] := List.eq_nil_of_length_eq_zero (by rw [length_zerosL, hzl, h0])
        rw [h1] at hf
        have h2 : (Array.range 0).map (fun _ : Nat => (default : Value)) = #[] := by simp [Array.range_zero']
        simp [Instr.buildSlice, run_underlying hu, run_size hi, h0, h2, hf, newRow]
      · have h1 := hmk z.toArray (.inr rfl)
        simp at h1
        simp [Instr.buildSlice, run_underlying hu, run_size hi, hlim', h0, zeroValue, typeInfo, hi, hz, hcells, h1, hf, newRow]
    have hn24 : n ≤ 16777216 := Nat.le_trans (Nat.le_mul_of_pos_right _ (by omega)) hlim
    refine ⟨_, _, _, hK w.heap.size, hrun, Next'.newHO r (Keep.alloc _ w _) (.inr ⟨w.heap.size, 0, n, n, _, rfl, heap_alloc_new w _, hlen, Nat.le_refl _, ?_, ?_, ?_⟩) fun b hb => ?_⟩
    · simp only [maxLen]; omega
    · simp [hlen]
    · simp only [List.drop_zero]
      rw [← hlen]
      exact List.take_length
    · simp [HO.fp, Value.ownBlock] at hb; omega
  · exact h.elim

/-- What is asked of the rest of a region. -/
def Goes (E : Env) (dr : Bool) (op : Op) (bs : Nat → Nat) (ks : List (Nat × Obj)) (L : List Box) (H : List HO) (w : World) (k : SV → List Box → List HO → Prop) (N : Value → World → Prop) : Prop :=
  ∀ s bs' L' H' w', k s L' H' → s.wf L'.length → Next' E dr op bs bs' ks L L' H H' w w' → N (s.real bs') w'

theorem callOb_sound {rd : Option Nat} {tg : Tg} {args : List Value} {N : Value → World → Prop} {a : Act} {o : Oper} {Q : Exit → Act → World → Prop} {next : Act → World → Prop} {nx : Go.Next}
    (h : CallOb E.P E.w0 dr tg args H fun v H => k (.v v) L H) (r : Rel E.w0 bs ks L H w) (hn : Goes E dr op bs ks L H w k N) (hN : ∀ v w', N v w' → next (a.put o.dst v) w')
    (hx : (∃ f, tg = .fn f ∧ nx = .enter f args.toArray) ∨ ∃ l, tg = .yield l) (hy : ∀ l, tg = .yield l → ∀ fn tmps assign body w1, (Instr.yield l args.toArray).run E.P w = .ok (.round l fn tmps assign body) w1 → nx = .round l fn tmps assign body) :
    o.uponIn (fence rd) 0 E.P a next Q (.ok nx w) := by
  have hw := h w r.hp
  have key : ∀ e w', (∃ v M H', e = Ending.returned v ∧ Keep M w w' ∧ (∀ b, M b → fpsx H b) ∧ Hp E.w0 H' w' ∧ (∀ h ∈ H', ∀ b, (h.fp b → fps H b ∨ w.heap.size ≤ b) ∧ (h.fpx b → fpsx H b ∨ w.heap.size ≤ b)) ∧ (dr = true → ∀ x ∈ H, x ∈ H') ∧ k (.v v) L H') →
      (match e, w' with
        | .returned v, w'' => next (a.put o.dst v) w''
        | .panicked chain, w'' => Q (.panic chain) a w''
        | .outgrown, _ => LetsOut Q : Prop) := by
    rintro e w' ⟨v, M, H', rfl, hk, hM, hp, hf, hd, hK⟩
    exact hN _ _ (hn (.v v) bs L H' w' hK trivial ⟨⟨fun _ _ => rfl, Nat.le_refl _, ⟨hk.mono fun b hb => .inl (hM b hb), fun b ⟨h, hh, hb⟩ => (hf h hh b).1 hb, fun b ⟨h, hh, hb⟩ => (hf h hh b).2 hb, fun j hj => .inl ⟨j, hj, rfl⟩⟩⟩, r.keep hk hM hp (fun h hh b => (hf h hh b).1), fun e1 _ => ⟨List.prefix_refl _, hd e1⟩⟩)
  rcases hx with ⟨f, rfl, rfl⟩ | ⟨l, rfl⟩
  · simp only [Invokes] at hw
    rw [Oper.uponIn_enter]
    refine ⟨fun h => by simp [fence, Fence.wide] at h, fence_calls (Calls.mono hw fun e w' he => ?_)⟩
    have := key e w' he
    cases e <;> exact this
  · simp only [Invokes] at hw
    obtain ⟨fn, tmps, assign, body, hrun, hround⟩ := hw
    rw [hy l rfl fn tmps assign body w hrun, Oper.uponIn_round]
    refine ⟨fun h => by simp [fence, Fence.wide] at h, fence_round (RoundIn.mono hround fun e w' he => ?_)⟩
    have := key e w' he
    cases e <;> exact this

theorem map_ops {fr : List SV} {ρ : Operand → Value} {args : List Operand} {vs : List Value} (hv : ∀ bs, (args.map (op1 fr)).map (SV.real bs) = vs) (hρ : ∀ x ∈ args, ρ x = (op1 fr x).real bs) : args.map ρ = vs := by
  rw [← hv bs, List.map_map]
  exact List.map_congr_left fun x hx => hρ x hx

theorem chain_sound (hD : E.DetOk) {fr : List SV} {d : Option Nat} (h : chainOp E dr fr L H d op k) (r : Rel E.w0 bs ks L H w) {ρ : Operand → Value} {o : Oper} (hρ : ∀ x ∈ op.operands, ρ x = (op1 fr x).real bs) (ho : o.op = op)
    {rd : Option Nat} {a : Act} {next : Act → World → Prop} {Q : Exit → Act → World → Prop} (hn : Goes E dr op bs ks L H w k fun v w' => next (a.put o.dst v) w') :
    o.uponIn (fence rd) 0 E.P a next Q ((execOp ρ o).run E.P w) := by
  unfold chainOp at h
  split at h
  · rename_i T
    obtain ⟨z, hz, h⟩ := h
    obtain ⟨s, bs', L', H', hk, hw, hs, hx⟩ := newBox_sound (dr := dr) (op := .alloc T) h r
    unfold zeroT at hz
    cases hi : E.P.info? T with
    | none => simp [hi] at hz
    | some i =>
      simp only [hi, Option.map_eq_some_iff] at hz
      obtain ⟨v, hv, rfl⟩ := hz
      have hrun : (Instr.alloc T true (.tuple #[])).run E.P w = .ok (.pointer (some ⟨w.heap.size, 0, none⟩)) (w.alloc (.cells v.cells.toList.toArray T)) := by
        simp [Instr.alloc, zeroValue, typeInfo, hi, hv, newVar, newRow]
      simp only [execOp, ho, run_v' hrun]
      rw [← hs]
      exact hn s bs' L' H' _ hk hw hx
  · rename_i T x
    obtain ⟨vx, hvx, h⟩ := withV_iff h
    obtain ⟨s, bs', L', H', hk, hw, hs, hx⟩ := newBox_sound (dr := dr) (op := .box T x) h r
    have h1 := hρ x (by simp [Op.operands])
    rw [hvx] at h1
    have hrun : (Instr.box T vx).run E.P w = .ok (.pointer (some ⟨w.heap.size, 0, none⟩)) (w.alloc (.cells (vcells vx).toArray T)) := by
      simp [Instr.box, newVar, newRow, vcells]
    simp only [execOp, ho, h1, run_v' hrun]
    rw [← hs]
    exact hn s bs' L' H' _ hk hw hx
  · rename_i T ad x
    obtain ⟨vx, hvx, h⟩ := withV_iff h
    obtain ⟨L', H', w', hk, hrun, hx⟩ := stS_sound (dr := dr) (op := .store T ad x) rfl h r (fun _ => rfl)
    have h1 := hρ x (by simp [Op.operands])
    have h2 := hρ ad (by simp [Op.operands])
    rw [hvx] at h1
    simp only [execOp, ho, h1, h2, run_u hrun]
    exact hn (.v undef) bs L' H' w' hk trivial hx
  · rename_i T n ps
    obtain ⟨xs, hxs, h⟩ := withVs_iff h
    obtain ⟨v, w', H', hk, hrun, hx⟩ := bsS_sound (dr := dr) (op := .buildSlice T n ps) (P := E.P) h r
    have e : (ps.map fun (p : Nat × Operand) => (p.1, ρ p.2)) = ((ps.toList.map (·.1)).zip xs).toArray := by
      apply Array.ext'
      rw [← hxs bs]
      simp only [Array.toList_map, List.map_map]
      rw [List.zip_map']
      refine List.map_congr_left fun p hpm => ?_
      simp only [Function.comp]
      rw [hρ p.2 (by simp [Op.operands]; exact ⟨p.1, by simpa using hpm⟩)]
    have e' : (ps.map fun (x : Nat × Operand) => match x with | (i, x) => (i, ρ x)) = (ps.map fun (p : Nat × Operand) => (p.1, ρ p.2)) := rfl
    simp only [execOp, ho, e', e, run_v' hrun]
    exact hn (.v v) bs L H' w' hk trivial hx
  · rename_i T n c
    obtain ⟨vn, hvn, h⟩ := withV_iff h
    obtain ⟨vc, hvc, h⟩ := withV_iff h
    obtain ⟨v, w', H', hk, hrun, hx⟩ := mkS_sound (dr := dr) (op := .makeSlice T n c) (P := E.P) h r
    have h1 := hρ n (by simp [Op.operands])
    have h2 := hρ c (by simp [Op.operands])
    rw [hvn] at h1
    rw [hvc] at h2
    simp only [execOp, ho, h1, h2, run_v' hrun]
    exact hn (.v v) bs L H' w' hk trivial hx
  · rename_i c
    obtain ⟨ce, ⟨as⟩, ⟨ts⟩⟩ := c
    simp only [] at h
    unfold calS at h
    split at h
    · rename_i f
      obtain ⟨vs, hvs, h⟩ := withVs_iff h
      have hf := hρ f (by simp [Op.operands, Call.operands])
      have has : as.map ρ = vs := map_ops hvs fun x hx => hρ x (by simp [Op.operands, Call.operands, hx])
      unfold invS at h
      split at h
      · rename_i g first cap hfv
        obtain ⟨hT, h⟩ := h
        rw [hfv] at hf
        have hrun : (execOp ρ o).run E.P w = .ok (.enter g (first.toList ++ vs ++ cap.toList).toArray) w := by
          simp only [execOp, ho, resolve, hf, SV.real, List.map_toArray, has, Deferred.ofValue, Sem.run_bind, Sem.run_pure, Result.andThen_ok, invoke]
          rw [hT]
          congr 3
          apply Array.ext'
          simp
        rw [hrun]
        unfold callS at h
        split at h
        · rename_i v hv
          have hc := hD g _ v hv w r.hp.ext
          rw [Oper.uponIn_enter]
          refine ⟨fun h => by simp [fence, Fence.wide] at h, fence_calls (Calls.mono hc fun e w' he => ?_)⟩
          obtain ⟨rfl, hk⟩ := he
          refine hn (.v v) bs L H w' h trivial ⟨⟨fun _ _ => rfl, Nat.le_refl _, Frm.new hk fun x hx _ _ => .inl hx⟩, r.keep hk (fun _ h => h.elim) (r.hp.keep hk) (fun x hx b hb => .inl ⟨x, hx, hb⟩), fun _ _ => ⟨List.prefix_refl _, fun _ h => h⟩⟩
        · exact callOb_sound h r hn (fun v w' h => h) (.inl ⟨g, rfl, rfl⟩) (fun l hl => by cases hl)
      · rename_i l first cap hfv
        rw [hfv] at hf
        have hrun : (execOp ρ o).run E.P w = (Instr.yield l (first.toList ++ vs).toArray).run E.P w := by
          simp only [execOp, ho, resolve, hf, SV.real, List.map_toArray, has, Deferred.ofValue, Sem.run_bind, Sem.run_pure, Result.andThen_ok, invoke]
          congr 2
          apply Array.ext'
          simp
        obtain ⟨fn, tmps, assign, body, hy, _⟩ := h w r.hp
        rw [hrun, hy]
        refine callOb_sound h r hn (fun v w' h => h) (.inr ⟨l, rfl⟩) fun l' hl fn' tmps' assign' body' w1 h1 => ?_
        cases hl
        rw [hy] at h1
        simp only [Result.ok.injEq] at h1
        exact h1.1
      · exact h.elim
    · rename_i s x T T'
      obtain ⟨rfl, h⟩ := h
      obtain ⟨vs, hvs, h⟩ := withV_iff h
      obtain ⟨vx, hvx, h⟩ := withV_iff h
      have h1 := hρ s (by simp [Op.operands, Call.operands])
      have h2 := hρ x (by simp [Op.operands, Call.operands])
      rw [hvs] at h1
      rw [hvx] at h2
      unfold AppOb at h
      split at h
      · rename_i e sz z bytes hk
        obtain ⟨n, m, xs, ys, A, hi, hn', hm', hsl, h1c, hb, hK⟩ := h
        have hp' := (hi w r.hp).1
        have hrow : RowOk w vs e sz xs := hp'.ok (.row vs e sz xs) List.mem_cons_self
        obtain ⟨ad, c, w', hnil, hrun, hrow', hkeep, hown⟩ := append_run hk hrow hn' hm' (hsl w r.hp) h1c hb o.type
        have hexec : (execOp ρ o).run E.P w = .ok (.value (.slice ad (n + m) c)) w' := by
          simp only [execOp, ho, resolve, invoke, builtin, Sem.run_bind, Sem.run_pure, Result.andThen_ok, List.map_toArray, List.map_cons, List.map_nil, h1, h2, hrun]
        rw [hexec]
        have hpA := List.pairwise_cons.1 hp'.nd
        have hbl : ∀ b, vs.ownBlock = some b → fpsx H b := fun b hb => (hi w r.hp).2.2 b ⟨_, List.mem_cons_self, hb⟩
        have hff : ∀ y ∈ HO.row (.slice ad (n + m) c) e sz (xs ++ ys) :: A, ∀ b, y.fp b → fps H b ∨ w.heap.size ≤ b := fun y hy b hb => ?_
        have hfx : ∀ b, fpsx (HO.row (.slice ad (n + m) c) e sz (xs ++ ys) :: A) b → fpsx H b ∨ w.heap.size ≤ b := by
          rintro b ⟨y, hy, hb⟩
          rcases List.mem_cons.1 hy with rfl | hy
          · rcases hown b hb with hb | hb
            · exact .inl (hbl b hb)
            · exact .inr hb
          · exact .inl ((hi w r.hp).2.2 b ⟨y, List.mem_cons_of_mem _ hy, hb⟩)
        refine hn (.v _) bs L _ w' (hK ad c hnil) trivial ⟨⟨fun _ _ => rfl, Nat.le_refl _, ⟨hkeep.mono fun b hb => .inl (hbl b hb), fun b ⟨y, hy, hb⟩ => hff y hy b hb, hfx, fun j hj => .inl ⟨j, hj, rfl⟩⟩⟩, r.keep hkeep hbl ⟨hkeep.into r.hp.ext (fun b hb => hp'.old _ List.mem_cons_self b hb), fun y hy => ?_, fun y hy b hb => ?_, List.pairwise_cons.2 ⟨fun y hy b hb hb' => ?_, hpA.2⟩⟩ hff, fun _ e2 => by cases e2⟩
        · rcases List.mem_cons.1 hy with rfl | hy
          · exact hrow'
          · exact HO.stable (hp'.ok y (List.mem_cons_of_mem _ hy)) (hkeep.sameOn (fun _ hb => HO.lt (hp'.ok y (List.mem_cons_of_mem _ hy)) hb) fun b hb hb' => (hpA.1 y hy b hb' hb).1 hb')
        · rcases List.mem_cons.1 hy with rfl | hy
          · rcases hown b hb with hb | hb
            · exact hp'.old _ List.mem_cons_self b hb
            · exact .inr (Nat.le_trans r.hp.ext.size hb)
          · exact hp'.old y (List.mem_cons_of_mem _ hy) b hb
        · rcases hown b hb with hb | hb
          · exact ⟨fun _ => (hpA.1 y hy b hb hb').1 hb, (hpA.1 y hy b hb hb').2⟩
          · have := HO.lt (hp'.ok y (List.mem_cons_of_mem _ hy)) hb'
            omega
        · rcases List.mem_cons.1 hy with rfl | hy
          · rcases hown b hb with hb | hb
            · exact .inl (fps_of_fpsx (hbl b hb))
            · exact .inr hb
          · exact .inl ((hi w r.hp).2.1 b ⟨y, List.mem_cons_of_mem _ hy, hb⟩)
      · exact h.elim
    · exact h.elim
  · exact h.elim

end
end Go.SX
