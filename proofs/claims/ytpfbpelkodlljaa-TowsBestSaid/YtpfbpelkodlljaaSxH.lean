/- Regions that draw their order: the walk goes once, in an order of its own; the machine may take any that the edges allow. -/
import Derived.Test.YtpfbpelkodlljaaSxG
set_option linter.all false
namespace Go.SX
open Go.RowKit

def maskOf (ms : List Nat) (o : Oper) : Nat := o.after.toList.foldl (fun s e => bif Region.binds .any e then s ||| (1 <<< e.on) ||| ms.getD e.on 0 else s) 0

def masks : List Oper → List Nat → List Nat
  | [], acc => acc
  | o :: r, acc => masks r (acc ++ [maskOf acc o])

def edgesB (ops : List Oper) : Bool := ops.zipIdx.all fun (o, i) => o.after.toList.all fun e => !Region.binds .any e || decide (e.on < i)

def pairB (ops : List Oper) (ms : List Nat) (i j : Nat) : Bool :=
  i != j && !(ms.getD i 0).testBit j &&
  match ops[i]?, ops[j]? with
  | some oi, some oj => (ms.getD j 0).testBit i || (isFree oi.op && Oper.apart ops.toArray oi oj && (!(storeLike oj.op) || !(isLoad oi.op)))
  | _, _ => false

def pairsB (p : Nat → Nat → Bool) : List Nat → Bool
  | [] => true
  | i :: l => l.all (p i) && pairsB p l

/-- The walk's order is one from which every order that the edges allow can be had by putting off operations that turn nothing. -/
def regB (ops : List Oper) (cl : List Nat) : Bool :=
  cl.length == ops.length && cl.all (fun i => decide (i < ops.length)) && (List.range ops.length).all (fun i => cl.contains i) && edgesB ops && pairsB (pairB ops (masks ops [])) cl

theorem pairsB_sub {p : Nat → Nat → Bool} : ∀ {l l' : List Nat}, l'.Sublist l → pairsB p l = true → pairsB p l' = true
  | _, _, .slnil, h => h
  | _, _, .cons a hs, h => by
    simp only [pairsB, Bool.and_eq_true] at h
    exact pairsB_sub hs h.2
  | _, _, .cons_cons a hs, h => by
    simp only [pairsB, Bool.and_eq_true, List.all_eq_true] at h ⊢
    exact ⟨fun x hx => h.1 x (hs.subset hx), pairsB_sub hs h.2⟩

theorem pairsB_append {p : Nat → Nat → Bool} {a b : List Nat} (h : pairsB p (a ++ b) = true) : ∀ i ∈ a, ∀ j ∈ b, p i j = true := by
  induction a with
  | nil => intro i hi; cases hi
  | cons x a ih =>
    simp only [List.cons_append, pairsB, Bool.and_eq_true, List.all_eq_true] at h
    intro i hi j hj
    rcases List.mem_cons.1 hi with rfl | hi
    · exact h.1 j (List.mem_append_right _ hj)
    · exact ih h.2 i hi j hj

/-- A set of operations that holds with each the ones that it waits for. -/
def ClosedS (ops : List Oper) (S : Nat → Prop) : Prop := ∀ j o, ops[j]? = some o → S j → ∀ e ∈ o.after.toList, Region.binds .any e = true → S e.on

theorem fold_bits (ms : List Nat) (es : List Edge) (s i : Nat) : (es.foldl (fun s e => bif Region.binds .any e then s ||| (1 <<< e.on) ||| ms.getD e.on 0 else s) s).testBit i = true →
    s.testBit i = true ∨ ∃ e ∈ es, Region.binds .any e = true ∧ (e.on = i ∨ (ms.getD e.on 0).testBit i = true) := by
  induction es generalizing s with
  | nil => exact fun h => .inl h
  | cons e es ih =>
    intro h
    simp only [List.foldl_cons] at h
    rcases ih _ h with h | ⟨e', he', hb, h⟩
    · cases hb : Region.binds .any e with
      | false => rw [hb] at h; exact .inl h
      | true =>
        rw [hb] at h
        simp only [cond_true, Nat.testBit_or, Bool.or_eq_true] at h
        rcases h with (h | h) | h
        · exact .inl h
        · refine .inr ⟨e, List.mem_cons_self, hb, .inl ?_⟩
          rw [Nat.one_shiftLeft, Nat.testBit_two_pow] at h
          simpa using h
        · exact .inr ⟨e, List.mem_cons_self, hb, .inr h⟩
    · exact .inr ⟨e', List.mem_cons_of_mem _ he', hb, h⟩

theorem masks_spec (all : List Oper) (S : Nat → Prop) (hS : ClosedS all S) : ∀ (ops : List Oper) (acc : List Nat), (∀ k o, ops[k]? = some o → all[acc.length + k]? = some o) →
    (∀ j i, j < acc.length → S j → (acc.getD j 0).testBit i = true → S i) → ∀ j i, j < acc.length + ops.length → S j → ((masks ops acc).getD j 0).testBit i = true → S i
  | [], acc, _, ha, j, i, hj, hSj, h => ha j i (by simpa using hj) hSj h
  | o :: r, acc, hall, ha, j, i, hj, hSj, h => by
    refine masks_spec all S hS r (acc ++ [maskOf acc o]) (fun k o' hk => ?_) (fun j i hj hSj h => ?_) j i (by simp at hj ⊢; omega) hSj h
    · have := hall (k + 1) o' (by simpa using hk)
      rw [← this]
      congr 1
      simp
      omega
    · simp at hj
      by_cases e : j = acc.length
      · subst e
        simp only [List.getD_eq_getElem?_getD, List.getElem?_append_right (Nat.le_refl _), Nat.sub_self, List.getElem?_cons_zero, Option.getD_some] at h
        have ho := hall 0 o rfl
        simp only [Nat.add_zero] at ho
        rcases fold_bits acc o.after.toList 0 i h with h | ⟨e, he, hb, h⟩
        · simp at h
        · have hSe := hS _ o ho hSj e he hb
          rcases h with rfl | h
          · exact hSe
          · by_cases hlt : e.on < acc.length
            · exact ha _ _ hlt hSe h
            · rw [List.getD_eq_getElem?_getD, List.getElem?_eq_none (by omega)] at h
              simp at h
      · have hlt : j < acc.length := by omega
        rw [List.getD_eq_getElem?_getD, List.getElem?_append_left hlt, ← List.getD_eq_getElem?_getD] at h
        exact ha j i hlt hSj h

/-! ### What has been put off -/

/-- An operation's value, or that it is passed over, at a frame. -/
def Val (E : Env) (all : List Oper) (fr : List SV) (L : List Box) (H : List HO) (o : Oper) (s : SV) : Prop :=
  s.wf L.length ∧ ((wantedS all fr o = true ∧ isFree o.op = true ∧ Gives E fr L H o.op s) ∨ (wantedS all fr o = false ∧ s = .v undef))

def Replay (E : Env) (ops : Array Oper) : List Nat → List SV → List Box → List HO → List SV → Prop
  | [], frR, _, _, frC => FEq frR frC
  | i :: D, frR, L, H, frC => ∃ o s, ops[i]? = some o ∧ Val E ops.toList frR L H o s ∧ Replay E ops D (put frR o.dst s) L H frC

section
variable {E : Env} {ops : Array Oper} {L : List Box} {H : List HO}

theorem looks_ops {o : Oper} {x : Operand} (hx : x ∈ o.op.operands) {t : Nat} (ht : x = .tmp t) : t ∈ o.looksAt ops := by
  subst ht
  simp only [Oper.looksAt, List.mem_append, List.mem_filterMap]
  exact .inl ⟨.tmp t, by simpa using hx, rfl⟩

theorem op1_same {fr fr' : List SV} {o : Oper} (h : ∀ t ∈ o.looksAt ops, ∀ bs, (fget fr t).real bs = (fget fr' t).real bs) {x : Operand} (hx : x ∈ o.op.operands) (bs : Nat → Nat) : (op1 fr x).real bs = (op1 fr' x).real bs := by
  cases x with
  | tmp t => exact h t (looks_ops hx rfl) bs
  | const c => cases c <;> rfl
  | global g => rfl
  | func f => rfl

theorem wantedS_same {fr fr' : List SV} {o : Oper} (h : ∀ t ∈ o.looksAt ops, ∀ bs, (fget fr t).real bs = (fget fr' t).real bs) : wantedS ops.toList fr o = wantedS ops.toList fr' o := by
  unfold wantedS
  cases hg : o.guard with
  | none => rfl
  | some g =>
    obtain ⟨j, want⟩ := g
    simp only []
    cases hd : dstOf ops.toList j with
    | none => rfl
    | some d =>
      simp only []
      rw [h d (by
        simp only [Oper.looksAt, hg, List.mem_append]
        right
        simp only [dstOf, Array.getElem?_toList] at hd
        simp [hd])]

theorem Val.same {fr fr' : List SV} {o : Oper} {s : SV} (v : Val E ops.toList fr L H o s) (h : ∀ t ∈ o.looksAt ops, ∀ bs, (fget fr t).real bs = (fget fr' t).real bs) : Val E ops.toList fr' L H o s := by
  refine ⟨v.1, ?_⟩
  rw [← wantedS_same h]
  rcases v.2 with ⟨hw, hf, hg⟩ | hn
  · exact .inl ⟨hw, hf, fun bs ks L' H' w ρ o' r hl he ho => hg bs ks L' H' w ρ o' r hl (fun x hx => (he x hx).trans (op1_same h hx bs).symm) ho⟩
  · exact .inr hn

theorem Replay.feq : ∀ {D : List Nat} {a b c : List SV}, Replay E ops D a L H c → FEq a b → Replay E ops D b L H c
  | [], _, _, _, h, e => e.symm.trans h
  | i :: D, a, b, c, h, e => by
    obtain ⟨o, s, ho, hv, hr⟩ := h
    exact ⟨o, s, ho, hv.same fun t _ bs => e.2 t bs, Replay.feq hr (e.put _ s)⟩

theorem Replay.feqC : ∀ {D : List Nat} {a c d : List SV}, Replay E ops D a L H c → FEq c d → Replay E ops D a L H d
  | [], _, _, _, h, e => h.trans e
  | i :: D, a, c, d, h, e => by
    obtain ⟨o, s, ho, hv, hr⟩ := h
    exact ⟨o, s, ho, hv, Replay.feqC hr e⟩

theorem put_other {fr : List SV} {d : Option Nat} {s : SV} {t : Nat} (h : ∀ e, d = some e → t ≠ e) (bs : Nat → Nat) : (fget (put fr d s) t).real bs = (fget fr t).real bs := by
  cases d with
  | none => rfl
  | some d => simp only [put]; rw [fget_set_ne _ _ _ _ (h d rfl)]

theorem put_comm {fr : List SV} {d d' : Option Nat} {s s' : SV} (h : ∀ e, d = some e → d' ≠ some e) : FEq (put (put fr d s) d' s') (put (put fr d' s') d s) := by
  cases d with
  | none => exact FEq.refl _
  | some d =>
    cases d' with
    | none => exact FEq.refl _
    | some d' =>
      have hne : d ≠ d' := fun e => h d rfl (by rw [e])
      refine ⟨by simp [put, length_fset], fun t bs => ?_⟩
      simp only [put]
      rw [fget_set_real, fget_set_real, fget_set_real, fget_set_real, length_fset, length_fset]
      by_cases h1 : t = d <;> by_cases h2 : t = d' <;> simp_all

/-- x is apart from all that is put off. -/
def ApartD (ops : Array Oper) (D : List Nat) (x : Oper) : Prop := ∀ i ∈ D, ∀ o, ops[i]? = some o → Oper.apart ops o x = true

theorem ApartD.tail {i : Nat} {D : List Nat} {x : Oper} (h : ApartD ops (i :: D) x) : ApartD ops D x := fun j hj => h j (List.mem_cons_of_mem _ hj)

theorem Replay.put : ∀ {D : List Nat} {a c : List SV} {x : Oper} {s : SV}, Replay E ops D a L H c → ApartD ops D x → Replay E ops D (put a x.dst s) L H (put c x.dst s)
  | [], _, _, x, s, h, _ => FEq.put h _ s
  | i :: D, a, c, x, s, h, ha => by
    obtain ⟨o, s', ho, hv, hr⟩ := h
    obtain ⟨h1, h2, h3⟩ := Oper.apart_spec (ha i List.mem_cons_self o ho)
    refine ⟨o, s', ho, hv.same fun t ht bs => (put_other (fun e he => fun e' => h3 e he (e' ▸ ht)) bs).symm, ?_⟩
    exact (Replay.put hr ha.tail).feq (put_comm (fun e he => h2 e he))

theorem Replay.at : ∀ {D : List Nat} {a c : List SV} {x : Oper}, Replay E ops D a L H c → ApartD ops D x → ∀ t ∈ x.looksAt ops, ∀ bs, (fget a t).real bs = (fget c t).real bs
  | [], _, _, _, h, _, t, _, bs => h.2 t bs
  | i :: D, a, c, x, h, ha, t, ht, bs => by
    obtain ⟨o, s', ho, hv, hr⟩ := h
    obtain ⟨h1, h2, h3⟩ := Oper.apart_spec (ha i List.mem_cons_self o ho)
    rw [← Replay.at hr ha.tail t ht bs]
    exact (put_other (fun e he => fun e' => h1 e he (e' ▸ ht)) bs).symm

theorem Replay.snoc {i : Nat} {o : Oper} (ho : ops[i]? = some o) : ∀ {D : List Nat} {a c : List SV} {s : SV}, Replay E ops D a L H c → Val E ops.toList c L H o s → Replay E ops (D ++ [i]) a L H (SX.put c o.dst s)
  | [], a, c, s, h, v => ⟨o, s, ho, v.same fun t _ bs => (FEq.symm h).2 t bs, FEq.put h _ s⟩
  | j :: D, a, c, s, h, v => by
    obtain ⟨o', s', ho', hv, hr⟩ := h
    exact ⟨o', s', ho', hv, Replay.snoc ho hr v⟩

theorem Replay.mono {L' : List Box} {H' : List HO} (hl : L.length ≤ L'.length) : ∀ {D : List Nat} {a c : List SV}, Replay E ops D a L H c → (∀ i ∈ D, ∀ o, ops[i]? = some o → isLoad o.op = true → L <+: L' ∧ ∀ x ∈ H, x ∈ H') → Replay E ops D a L' H' c
  | [], _, _, h, _ => h
  | i :: D, a, c, h, hc => by
    obtain ⟨o, s, ho, hv, hr⟩ := h
    refine ⟨o, s, ho, ⟨SV.wf_le hv.1 hl, ?_⟩, Replay.mono hl hr fun j hj => hc j (List.mem_cons_of_mem _ hj)⟩
    rcases hv.2 with ⟨hw, hf, hg⟩ | hn
    · refine .inl ⟨hw, hf, fun bs ks L2 H2 w ρ o' r hx he ho' => hg bs ks L2 H2 w ρ o' r (fun hld => ?_) he ho'⟩
      obtain ⟨p1, q1⟩ := hc i List.mem_cons_self o ho hld
      obtain ⟨p2, q2⟩ := hx hld
      exact ⟨p1.trans p2, fun x hx => q2 x (q1 x hx)⟩
    · exact .inr hn

theorem Replay.bubble {i : Nat} {o : Oper} (ho : ops[i]? = some o) {D2 : List Nat} : ∀ {D1 : List Nat} {a c : List SV}, Replay E ops (D1 ++ i :: D2) a L H c → ApartD ops D1 o → ∃ s, Val E ops.toList a L H o s ∧ Replay E ops (D1 ++ D2) (SX.put a o.dst s) L H c
  | [], a, c, h, _ => by
    obtain ⟨o', s, ho', hv, hr⟩ := h
    have : o' = o := by rw [ho] at ho'; exact (Option.some.inj ho').symm
    subst this
    exact ⟨s, hv, hr⟩
  | d :: D1, a, c, h, ha => by
    obtain ⟨od, sd, hod, hvd, hr⟩ := h
    obtain ⟨s, hv, hr⟩ := Replay.bubble ho hr ha.tail
    obtain ⟨h1, h2, h3⟩ := Oper.apart_spec (ha d List.mem_cons_self od hod)
    refine ⟨s, hv.same fun t ht bs => put_other (fun e he => fun e' => h1 e he (e' ▸ ht)) bs, od, sd, hod, hvd.same fun t ht bs => (put_other (fun e he => fun e' => h3 e he (e' ▸ ht)) bs).symm, ?_⟩
    exact hr.feq (put_comm (fun e he => h2 e he))

end

/-- The walk goes on over operations that turn nothing: they are put off. -/
theorem advance {E : Env} (hE : E.Fine) {ops : Array Oper} {k : List SV → List Box → List HO → Prop} {L : List Box} {H : List HO} {Z : List Nat} : ∀ (Y : List Nat) (D : List Nat) (frR frC : List SV), execs E true ops.toList ((Y ++ Z).filterMap (ops[·]?)) frC L H k → WfFr L.length frC →
    Replay E ops D frR L H frC → (∀ y ∈ Y, ∃ o, ops[y]? = some o ∧ isFree o.op = true) → ∃ frC', execs E true ops.toList (Z.filterMap (ops[·]?)) frC' L H k ∧ WfFr L.length frC' ∧ Replay E ops (D ++ Y) frR L H frC'
  | [], D, frR, frC, h, hf, hr, _ => ⟨frC, h, hf, by simpa using hr⟩
  | y :: Y, D, frR, frC, h, hf, hr, hy => by
    obtain ⟨o, ho, hfree⟩ := hy y List.mem_cons_self
    simp only [List.cons_append, List.filterMap_cons, ho] at h
    obtain ⟨fr1, he1, hf1, h⟩ := execs_cons h
    have hws : wantedS ops.toList fr1 o = wantedS ops.toList frC o := by rw [← wantedS_eq (fun _ => 0), ← wantedS_eq (fun _ => 0), he1.rf]
    have hr1 := hr.feqC he1.symm
    have step : ∃ s, Val E ops.toList fr1 L H o s ∧ execs E true ops.toList ((Y ++ Z).filterMap (ops[·]?)) (put fr1 o.dst s) L H k := by
      rcases h with ⟨hw, h⟩ | ⟨hw, h⟩
      · unfold exec1 at h
        simp only [hfree, cond_true] at h
        obtain ⟨s, hk, hwf, hg⟩ := free_sound hE h
        exact ⟨s, ⟨hwf _ (hf1 _ hf), .inl ⟨hws.trans hw, hfree, hg⟩⟩, hk⟩
      · exact ⟨.v undef, ⟨(trivial : SV.wf _ (.v undef)), .inr ⟨hws.trans hw, rfl⟩⟩, h⟩
    obtain ⟨s, hv, h⟩ := step
    obtain ⟨frC', h', hf', hr'⟩ := advance hE Y (D ++ [y]) frR _ h ((hf1 _ hf).put hv.1 _) (Replay.snoc ho hr1 hv) fun z hz => hy z (List.mem_cons_of_mem _ hz)
    exact ⟨frC', h', hf', by simpa using hr'⟩

structure RegInv (E : Env) (ops : Array Oper) (k : List SV → List Box → List HO → Prop) (ks : List (Nat × Obj)) (cl : List Nat) (listed : Array Bool) (D C2 : List Nat) (frR frC : List SV) (L : List Box) (H : List HO) (bs : Nat → Nat) (w : World) : Prop where
  split : ∃ C1, cl = C1 ++ C2 ∧ D.Sublist C1 ∧ ∀ i, i < ops.size → (listed.getD i false = true ↔ i ∈ C1 ∧ i ∉ D)
  size : listed.size = ops.size
  closed : ClosedS ops.toList (fun i => listed.getD i false = true)
  ex : execs E true ops.toList (C2.filterMap (ops[·]?)) frC L H k
  rep : Replay E ops D frR L H frC
  rel : Rel E.w0 bs ks L H w
  wfC : WfFr L.length frC
  wfR : WfFr L.length frR

theorem regB_spec {ops : List Oper} {cl : List Nat} (h : regB ops cl = true) : cl.length = ops.length ∧ (∀ i ∈ cl, i < ops.length) ∧ (∀ i, i < ops.length → i ∈ cl) ∧
    (∀ i o, ops[i]? = some o → ∀ e ∈ o.after.toList, Region.binds .any e = true → e.on < i) ∧ pairsB (pairB ops (masks ops [])) cl = true := by
  unfold regB at h
  simp only [Bool.and_eq_true, List.all_eq_true, beq_iff_eq, decide_eq_true_eq, List.mem_range, List.contains_eq_mem] at h
  obtain ⟨⟨⟨⟨h1, h2⟩, h3⟩, h4⟩, h5⟩ := h
  refine ⟨h1, h2, h3, fun i o ho e he hb => ?_, h5⟩
  unfold edgesB at h4
  rw [List.all_eq_true] at h4
  have := h4 (o, i) (List.mem_zipIdx_iff_getElem?.2 ho)
  simp only [List.all_eq_true, Bool.or_eq_true, Bool.not_eq_true', decide_eq_true_eq] at this
  rcases this e he with h | h
  · rw [hb] at h; cases h
  · exact h

theorem gd_both {listed : Array Bool} {i : Nat} (h : listed.getD i true = false) : listed.getD i false = false := by
  rcases Nat.lt_or_ge i listed.size with h' | h'
  · simp [h'] at h ⊢; exact h
  · simp [Array.getElem?_eq_none h'] at h

theorem gd_in {listed : Array Bool} {i : Nat} (hi : i < listed.size) (h : listed.getD i false = false) : listed.getD i true = false := by
  simp [hi] at h ⊢; exact h

theorem pair_apart {ops : Array Oper} {i j : Nat} {listed : Array Bool} (hcl : ClosedS ops.toList (fun i => listed.getD i false = true)) (hp : pairB ops.toList (masks ops.toList []) i j = true) (hi : listed.getD i false = false) (hj : j < ops.size)
    (hdeps : ∀ o, ops[j]? = some o → ∀ e ∈ o.after.toList, Region.binds .any e = true → listed.getD e.on false = true) :
    ∃ oi oj, ops[i]? = some oi ∧ ops[j]? = some oj ∧ isFree oi.op = true ∧ Oper.apart ops oi oj = true ∧ (storeLike oj.op = true → isLoad oi.op = false) := by
  unfold pairB at hp
  simp only [Bool.and_eq_true] at hp
  obtain ⟨⟨hne, _⟩, hp⟩ := hp
  split at hp
  · rename_i oi oj hoi hoj
    rw [Array.getElem?_toList] at hoi hoj
    rcases Bool.or_eq_true_iff.1 hp with hp | hp
    · exfalso
      have hS : ClosedS ops.toList (fun x => listed.getD x false = true ∨ x = j) := by
        intro x o ho hx e he hb
        rcases hx with hx | rfl
        · exact .inl (hcl x o ho hx e he hb)
        · exact .inl (hdeps o (by simpa using ho) e he hb)
      have := masks_spec ops.toList _ hS ops.toList [] (fun k o h => by simpa using h) (fun x y hx => by simp at hx) j i (by simpa using hj) (.inr rfl) hp
      rcases this with h | h
      · rw [hi] at h; cases h
      · subst h
        simp at hne
    · simp only [Bool.and_eq_true, Array.toArray_toList, Bool.or_eq_true, Bool.not_eq_true'] at hp
      refine ⟨oi, oj, hoi, hoj, hp.1.1, hp.1.2, fun hs => ?_⟩
      rcases hp.2 with h | h
      · rw [hs] at h; cases h
      · exact h
  · cases hp

theorem getD_set {listed : Array Bool} {i j : Nat} (hi : i < listed.size) : (listed.setIfInBounds i true).getD j false = if j = i then true else listed.getD j false := by
  by_cases e : j = i
  · subst e; simp [hi]
  · simp [e, Array.getD_eq_getD_getElem?, Array.getElem?_setIfInBounds_ne (Ne.symm e)]

/-- A region that draws its order. -/
theorem drawn_sound {E : Env} (hE : E.Fine) (hD : E.DetOk) {ops : Array Oper} {cl : List Nat} (hreg : regB ops.toList cl = true) {k : List SV → List Box → List HO → Prop} {ks : List (Nat × Obj)} {rd : Option Nat} {df : List Deferred} {Q : Exit → Act → World → Prop}
    {bs0 : Nat → Nat} {L0 : List Box} {H0 : List HO} {w00 : World}
    (hQ : ∀ fr' bs' L' H' w', k fr' L' H' → WfFr L'.length fr' → Come bs0 bs' L0 L' H0 H' w00 w' → Rel E.w0 bs' ks L' H' w' → Q .normal { tmps := rf bs' fr', defers := df } w') :
    ∀ (fuel : Nat) (listed : Array Bool) (D C2 : List Nat) (frR frC : List SV) (L : List Box) (H : List HO) (bs : Nat → Nat) (w : World), D.length + C2.length = fuel → RegInv E ops k ks cl listed D C2 frR frC L H bs w → Come bs0 bs L0 L H0 H w00 w →
      wpAnyIn (fence rd) 0 E.P .any ops Q fuel listed { tmps := rf bs frR, defers := df } w := by
  obtain ⟨hlen, hlt, hall, hedge, hpairs⟩ := regB_spec hreg
  simp only [Array.length_toList] at hlen hlt hall
  have done : ∀ (listed : Array Bool) (frR frC : List SV) (L : List Box) (H : List HO) (bs : Nat → Nat) (w : World), RegInv E ops k ks cl listed [] [] frR frC L H bs w → Come bs0 bs L0 L H0 H w00 w → Q .normal { tmps := rf bs frR, defers := df } w := by
    intro listed frR frC L H bs w inv hc
    have h := inv.ex
    simp only [List.filterMap_nil, execs] at h
    have hr := inv.rep
    simp only [Replay] at hr
    rw [hr.rf bs]
    exact hQ frC bs L H w h inv.wfC hc inv.rel
  intro fuel
  induction fuel with
  | zero =>
    intro listed D C2 frR frC L H bs w hn inv hc
    obtain rfl : D = [] := List.eq_nil_of_length_eq_zero (by omega)
    obtain rfl : C2 = [] := List.eq_nil_of_length_eq_zero (by omega)
    refine ⟨?_, done listed frR frC L H bs w inv hc⟩
    obtain ⟨C1, hC, _, hl⟩ := inv.split
    simp only [List.append_nil] at hC
    subst hC
    rw [List.eq_nil_iff_forall_not_mem]
    intro i hi
    obtain ⟨hun, oi, hoi, _⟩ := mem_ready.1 hi
    have hlt' : i < ops.size := (Array.getElem?_eq_some_iff.1 hoi).1
    have := (hl i hlt').2 ⟨hall i hlt', by simp⟩
    have hu := gd_both hun
    rw [hu] at this
    cases this
  | succ fuel ih =>
    intro listed D C2 frR frC L H bs w hn inv hc
    obtain ⟨C1, hC, hDs, hl⟩ := inv.split
    refine ⟨fun hready => ?_, fun i hi => ?_⟩
    · exfalso
      -- the first that is not listed, by its number
      have hex : ∃ i, i < ops.size ∧ listed.getD i false = false := by
        rcases D with _ | ⟨d, D⟩
        · rcases C2 with _ | ⟨c, C2⟩
          · simp at hn
          · have hcm : c ∈ cl := by rw [hC]; simp
            refine ⟨c, hlt c hcm, ?_⟩
            cases hb : listed.getD c false with
            | false => rfl
            | true =>
              exfalso
              have := ((hl c (hlt c hcm)).1 hb).1
              rw [hC] at hpairs
              have := pairsB_append hpairs c this c List.mem_cons_self
              simp [pairB] at this
        · have hdm : d ∈ C1 := hDs.subset List.mem_cons_self
          have hdl : d < ops.size := hlt d (by rw [hC]; simp [hdm])
          refine ⟨d, hdl, ?_⟩
          cases hb : listed.getD d false with
          | false => rfl
          | true => exact absurd List.mem_cons_self ((hl d hdl).1 hb).2
      have least : ∀ n i, i ≤ n → i < ops.size → listed.getD i false = false → ∃ j, j < ops.size ∧ listed.getD j false = false ∧ ∀ m, m < j → listed.getD m false = true := by
        intro n
        induction n with
        | zero =>
          intro i hi hs hu
          exact ⟨i, hs, hu, fun m hm => by omega⟩
        | succ n ih' =>
          intro i hi hs hu
          by_cases hsm : ∃ m, m < i ∧ listed.getD m false = false
          · obtain ⟨m, hm, hmu⟩ := hsm
            exact ih' m (by omega) (by omega) hmu
          · refine ⟨i, hs, hu, fun m hm => ?_⟩
            cases hb : listed.getD m false with
            | true => rfl
            | false => exact absurd ⟨m, hm, hb⟩ hsm
      obtain ⟨i, hi, hu⟩ := hex
      obtain ⟨j, hj, hju, hjm⟩ := least i i (Nat.le_refl _) hi hu
      have : j ∈ Region.ready .any ops listed := by
        refine mem_ready.2 ⟨gd_in (by rw [inv.size]; exact hj) hju, ops[j], Array.getElem?_eq_getElem hj, fun e he hb => ?_⟩
        exact hjm _ (hedge j ops[j] (by simp [hj]) e (Array.mem_toList_iff.2 he) hb)
      rw [hready] at this
      cases this
    · obtain ⟨hun, oi, hoi, hdeps⟩ := mem_ready.1 hi
      have hil : i < ops.size := (Array.getElem?_eq_some_iff.1 hoi).1
      have hu := gd_both hun
      have hdeps' : ∀ o, ops[i]? = some o → ∀ e ∈ o.after.toList, Region.binds .any e = true → listed.getD e.on false = true := by
        intro o ho e he hb
        rw [hoi] at ho
        cases ho
        exact hdeps e (Array.mem_toList_iff.1 he) hb
      have hnl : ∀ d, d ∈ D → listed.getD d false = false := by
        intro d hd
        have hdm : d ∈ C1 := hDs.subset hd
        have hdl : d < ops.size := hlt d (by rw [hC]; simp [hdm])
        cases hb : listed.getD d false with
        | false => rfl
        | true => exact absurd hd ((hl d hdl).1 hb).2
      have hnl2 : ∀ c, c ∈ C2 → listed.getD c false = false := by
        intro c hcm
        have hcl : c < ops.size := hlt c (by rw [hC]; simp [hcm])
        cases hb : listed.getD c false with
        | false => rfl
        | true =>
          exfalso
          have h1 := ((hl c hcl).1 hb).1
          have hp := hpairs
          rw [hC] at hp
          have := pairsB_append hp c h1 c hcm
          simp [pairB] at this
      have closed' : ClosedS ops.toList (fun x => (listed.setIfInBounds i true).getD x false = true) := by
        intro j o ho hj e he hb
        rw [getD_set (by rw [inv.size]; exact hil)] at hj ⊢
        by_cases hji : j = i
        · subst hji
          have := hdeps' o (by simpa using ho) e he hb
          simp [this]
        · simp only [hji, if_false] at hj
          have := inv.closed j o ho hj e he hb
          simp [this]
      have hcase : i ∈ D ∨ i ∈ C2 := by
        have := hall i hil
        rw [hC, List.mem_append] at this
        rcases this with h | h
        · by_cases hd : i ∈ D
          · exact .inl hd
          · have := (hl i hil).2 ⟨h, hd⟩
            rw [hu] at this
            cases this
        · exact .inr h
      rcases hcase with hiD | hiC
      · -- one that was put off
        obtain ⟨D1, D2, rfl⟩ := List.append_of_mem hiD
        have hsub : (D1 ++ i :: D2).Sublist cl := hDs.trans (by rw [hC]; exact List.sublist_append_left _ _)
        have hpD := pairsB_sub hsub hpairs
        have hap : ApartD ops D1 oi := by
          intro d hd o ho
          have hp := pairsB_append hpD d hd i List.mem_cons_self
          obtain ⟨o1, o2, h1, h2, _, h4, _⟩ := pair_apart inv.closed hp (hnl d (by simp [hd])) hil hdeps'
          rw [ho] at h1; cases h1
          rw [hoi] at h2; cases h2
          exact h4
        obtain ⟨s, hv, hr⟩ := Replay.bubble hoi inv.rep hap
        have hnew : RegInv E ops k ks cl (listed.setIfInBounds i true) (D1 ++ D2) C2 (put frR oi.dst s) frC L H bs w := by
          have hnd : ∀ x ∈ D1 ++ D2, x ≠ i := by
            rintro x hx rfl
            rcases List.mem_append.1 hx with hx | hx
            · have hp := pairsB_append hpD x hx x List.mem_cons_self
              simp [pairB] at hp
            · have hp := pairsB_append (a := D1 ++ [x]) (b := D2) (by simpa using hpD) x (by simp) x hx
              simp [pairB] at hp
          refine ⟨⟨C1, hC, List.Sublist.trans (List.Sublist.append (List.Sublist.refl D1) (List.sublist_cons_self i D2)) hDs, fun x hx => ?_⟩, by simp [inv.size], closed', inv.ex, hr, inv.rel, inv.wfC, inv.wfR.put hv.1 _⟩
          · rw [getD_set (by rw [inv.size]; exact hil)]
            by_cases hxi : x = i
            · subst hxi
              simp only [if_true, true_iff]
              exact ⟨hDs.subset hiD, fun h => hnd x h rfl⟩
            · simp only [hxi, if_false]
              rw [hl x hx]
              simp [hxi]
        have hfu : (D1 ++ D2).length + C2.length = fuel := by simp at hn ⊢; omega
        rcases hv.2 with ⟨hw, hfree, hg⟩ | ⟨hw, rfl⟩
        · unfold wpOpIn
          simp only [hoi, wantedS_eq, hw, if_true]
          unfold Oper.wpIn
          refine ⟨fun _ _ => trivial, ?_⟩
          have hnd : ∀ c, oi.op ≠ .defer c := by
            intro c e
            have := hg bs ks L H w (fun x => (op1 frR x).real bs) oi inv.rel (fun _ => ⟨List.prefix_refl _, fun _ h => h⟩) (fun _ _ => rfl) rfl
            simp [execOp, e] at this
            cases hres : (resolve (fun x => (op1 frR x).real bs) c oi.type).run E.P w <;> simp [hres, Result.andThen] at this
          rw [Oper.semAt_eq _ _ _ hnd]
          rw [hg bs ks L H w _ oi inv.rel (fun _ => ⟨List.prefix_refl _, fun _ h => h⟩) (fun x _ => op1_real bs frR df x) rfl, Oper.uponIn_value, put_real]
          exact ih _ _ _ _ _ _ _ _ _ hfu hnew hc
        · exact wp_skip_op hoi hw (ih _ _ _ _ _ _ _ _ _ hfu hnew hc)
      · -- one that the walk has not come to
        obtain ⟨Y, Z, rfl⟩ := List.append_of_mem hiC
        have hpC := hpairs
        rw [hC] at hpC
        have hYi : ∀ y ∈ C1 ++ Y, pairB ops.toList (masks ops.toList []) y i = true := fun y hy => pairsB_append (a := C1 ++ Y) (b := i :: Z) (by simpa using hpC) y hy i List.mem_cons_self
        have hfreeY : ∀ y ∈ Y, ∃ o, ops[y]? = some o ∧ isFree o.op = true := by
          intro y hy
          obtain ⟨o1, o2, h1, h2, h3, _⟩ := pair_apart inv.closed (hYi y (by simp [hy])) (hnl2 y (by simp [hy])) hil hdeps'
          exact ⟨o1, h1, h3⟩
        obtain ⟨frC', hex, hwf', hrep⟩ := advance hE Y D frR frC inv.ex inv.wfC inv.rep hfreeY
        have hDY : ∀ d ∈ D ++ Y, d ∈ C1 ++ Y ∧ listed.getD d false = false := by
          intro d hd
          rcases List.mem_append.1 hd with hd | hd
          · exact ⟨by simp [hDs.subset hd], hnl d hd⟩
          · exact ⟨by simp [hd], hnl2 d (by simp [hd])⟩
        have hap : ApartD ops (D ++ Y) oi := by
          intro d hd o ho
          obtain ⟨h0, h0'⟩ := hDY d hd
          obtain ⟨o1, o2, h1, h2, _, h4, _⟩ := pair_apart inv.closed (hYi d h0) h0' hil hdeps'
          rw [ho] at h1; cases h1
          rw [hoi] at h2; cases h2
          exact h4
        have hstore : ∀ d ∈ D ++ Y, ∀ o, ops[d]? = some o → isLoad o.op = true → storeLike oi.op = false := by
          intro d hd o ho hld
          obtain ⟨h0, h0'⟩ := hDY d hd
          obtain ⟨o1, o2, h1, h2, _, _, h5⟩ := pair_apart inv.closed (hYi d h0) h0' hil hdeps'
          rw [ho] at h1; cases h1
          rw [hoi] at h2; cases h2
          cases hs : storeLike oi.op with
          | false => rfl
          | true => rw [h5 hs] at hld; cases hld
        simp only [List.filterMap_cons, hoi] at hex
        obtain ⟨fr1, he1, hf1, hex⟩ := execs_cons hex
        have hrep1 := hrep.feqC he1.symm
        have hlook := Replay.at hrep1 hap
        have hws : wantedS ops.toList frR oi = wantedS ops.toList frC' oi := by
          rw [wantedS_same hlook, ← wantedS_eq (fun _ => 0), ← wantedS_eq (fun _ => 0), he1.rf]
        have newInv : ∀ s bs' L' H' w', execs E true ops.toList (Z.filterMap (ops[·]?)) (put fr1 oi.dst s) L' H' k → s.wf L'.length → L.length ≤ L'.length → Rel E.w0 bs' ks L' H' w' → (storeLike oi.op = false → L <+: L' ∧ ∀ x ∈ H, x ∈ H') →
            RegInv E ops k ks cl (listed.setIfInBounds i true) (D ++ Y) Z (put frR oi.dst s) (put fr1 oi.dst s) L' H' bs' w' := by
          intro s bs' L' H' w' hk hwf hle hrel hpre
          refine ⟨⟨C1 ++ Y ++ [i], by rw [hC]; simp, ?_, fun x hx => ?_⟩, by simp [inv.size], closed', hk, ?_, hrel, ((hf1 _ hwf').le hle).put hwf _, (inv.wfR.le hle).put hwf _⟩
          · exact (List.Sublist.append hDs (List.Sublist.refl Y)).trans (List.sublist_append_left _ _)
          · rw [getD_set (by rw [inv.size]; exact hil)]
            have hiC1 : i ∉ C1 := by
              intro h
              have := pairsB_append hpC i h i hiC
              simp [pairB] at this
            have hiY : i ∉ Y := by
              intro h
              have := hYi i (by simp [h])
              simp [pairB] at this
            by_cases hxi : x = i
            · subst hxi
              simp only [if_true, true_iff]
              exact ⟨by simp, fun h => by
                rcases List.mem_append.1 h with h | h
                · exact hiC1 (hDs.subset h)
                · exact hiY h⟩
            · simp only [hxi, if_false]
              rw [hl x hx]
              simp only [List.mem_append, List.mem_cons, hxi, List.not_mem_nil, or_false, not_or]
              constructor
              · rintro ⟨h1, h2⟩
                refine ⟨.inl h1, h2, fun h3 => ?_⟩
                have := pairsB_append hpC x h1 x (by simp [h3])
                simp [pairB] at this
              · rintro ⟨h1 | h1, h2, h3⟩
                · exact ⟨h1, h2⟩
                · exact absurd h1 h3
          · exact Replay.put (Replay.mono hle hrep1 fun d hd o ho hld => hpre (hstore d hd o ho hld)) hap
        have hfu : (D ++ Y).length + Z.length = fuel := by simp at hn ⊢; omega
        rcases hex with ⟨hw, hex⟩ | ⟨hw, hex⟩
        · refine wp_op hE hD hoi hex (hws.trans hw) inv.rel (hf1 _ hwf') inv.wfR (fun x hx => op1_same hlook hx bs) fun s bs' L' H' w' hk hwf hx => ?_
          exact ih _ _ _ _ _ _ _ _ _ hfu (newInv s bs' L' H' w' hk hwf hx.le hx.rel fun hs => hx.pre rfl hs) (hc.trans hx.toCome)
        · exact wp_skip_op hoi (hws.trans hw) (ih _ _ _ _ _ _ _ _ _ hfu (newInv (.v undef) bs L H w hex trivial (Nat.le_refl _) inv.rel fun _ => ⟨List.prefix_refl _, fun _ h => h⟩) hc)

end Go.SX
