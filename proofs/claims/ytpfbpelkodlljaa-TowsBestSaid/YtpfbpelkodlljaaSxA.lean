/- The state of the symbolic walk: symbolic values, frames, boxes and heap facts, and how they stand to a world. -/
import Derived.CallsIn
import Derived.OrdersIn
import Derived.Below
import Derived.Laws.AppendOwn
set_option linter.all false
namespace Go.SX
open Go.RowKit

/-- A symbolic value: a value; a Bool that the walk has decided; a pointer into a box of the walk's own. -/
inductive SV where
  | v (x : Value)
  | b (t : Bool)
  | p (j off : Nat)

def SV.real (bs : Nat → Nat) : SV → Value
  | .v x => x
  | .b t => .bool t
  | .p j off => .pointer (some ⟨bs j, off, none⟩)

def SV.wf (n : Nat) : SV → Prop
  | .p j _ => j < n
  | _ => True

theorem SV.real_agree {bs bs' : Nat → Nat} {n : Nat} {s : SV} (hs : s.wf n) (h : ∀ j, j < n → bs' j = bs j) : s.real bs' = s.real bs := by
  cases s with
  | v x => rfl
  | b t => rfl
  | p j off => simp [SV.real, h j hs]

def fget : List SV → Nat → SV
  | [], _ => .v undef
  | x :: _, 0 => x
  | _ :: l, n + 1 => fget l n

def fset : List SV → Nat → SV → List SV
  | [], _, _ => []
  | _ :: l, 0, y => y :: l
  | x :: l, n + 1, y => x :: fset l n y

def put (fr : List SV) (d : Option Nat) (s : SV) : List SV :=
  match d with
  | some d => fset fr d s
  | none => fr

/-- The real frame. -/
def rf (bs : Nat → Nat) (fr : List SV) : Array Value := (fr.map (SV.real bs)).toArray

def WfFr (n : Nat) (fr : List SV) : Prop := ∀ s ∈ fr, s.wf n

theorem fget_mem : ∀ (fr : List SV) (t : Nat), fget fr t ∈ fr ∨ fget fr t = .v undef
  | [], _ => .inr rfl
  | x :: l, 0 => .inl (by simp [fget])
  | x :: l, t + 1 => by
    rcases fget_mem l t with h | h
    · exact .inl (List.mem_cons_of_mem _ h)
    · exact .inr h

theorem WfFr.get {n : Nat} {fr : List SV} (h : WfFr n fr) (t : Nat) : (fget fr t).wf n := by
  rcases fget_mem fr t with m | e
  · exact h _ m
  · rw [e]; trivial

theorem fset_mem : ∀ (fr : List SV) (d : Nat) (y s : SV), s ∈ fset fr d y → s = y ∨ s ∈ fr
  | [], _, _, _, h => by simp [fset] at h
  | x :: l, 0, y, s, h => by
    simp only [fset, List.mem_cons] at h ⊢
    rcases h with h | h
    · exact .inl h
    · exact .inr (.inr h)
  | x :: l, d + 1, y, s, h => by
    simp only [fset, List.mem_cons] at h ⊢
    rcases h with h | h
    · exact .inr (.inl h)
    · rcases fset_mem l d y s h with h | h
      · exact .inl h
      · exact .inr (.inr h)

theorem WfFr.set {n : Nat} {fr : List SV} (h : WfFr n fr) {y : SV} (hy : y.wf n) (d : Nat) : WfFr n (fset fr d y) := fun s hs => by
  rcases fset_mem fr d y s hs with e | m
  · rw [e]; exact hy
  · exact h _ m

theorem WfFr.put {n : Nat} {fr : List SV} (h : WfFr n fr) {y : SV} (hy : y.wf n) (d : Option Nat) : WfFr n (put fr d y) := by
  cases d with
  | none => exact h
  | some d => exact h.set hy d

theorem SV.wf_le {n m : Nat} {s : SV} (h : s.wf n) (hle : n ≤ m) : s.wf m := by
  cases s with
  | p j off => exact Nat.lt_of_lt_of_le h hle
  | _ => trivial

theorem WfFr.le {n m : Nat} {fr : List SV} (h : WfFr n fr) (hle : n ≤ m) : WfFr m fr := fun s hs => SV.wf_le (h s hs) hle

theorem fget_set_same : ∀ (fr : List SV) (d : Nat) (y : SV), d < fr.length → fget (fset fr d y) d = y
  | [], d, _, h => by simp at h
  | _ :: _, 0, _, _ => rfl
  | _ :: l, d + 1, y, h => by simpa [fset, fget] using fget_set_same l d y (by simpa using h)

theorem fget_set_ne : ∀ (fr : List SV) (d t : Nat) (y : SV), t ≠ d → fget (fset fr d y) t = fget fr t
  | [], _, _, _, _ => rfl
  | _ :: _, 0, 0, _, h => absurd rfl h
  | _ :: _, 0, t + 1, _, _ => rfl
  | _ :: _, d + 1, 0, _, _ => rfl
  | _ :: l, d + 1, t + 1, y, h => by simpa [fset, fget] using fget_set_ne l d t y (by omega)

theorem length_fset : ∀ (fr : List SV) (d : Nat) (y : SV), (fset fr d y).length = fr.length
  | [], _, _ => rfl
  | _ :: _, 0, _ => rfl
  | _ :: l, d + 1, y => by simp [fset, length_fset l d y]

theorem rf_get (bs : Nat → Nat) : ∀ (fr : List SV) (t : Nat), (rf bs fr).getD t undef = (fget fr t).real bs := by
  intro fr t
  unfold rf
  simp only [Array.getD_eq_getD_getElem?, List.getElem?_toArray]
  induction fr generalizing t with
  | nil => simp [fget, SV.real]
  | cons x l ih =>
    cases t with
    | zero => simp [fget]
    | succ t => simpa [fget] using ih t

theorem rf_set (bs : Nat → Nat) (fr : List SV) (d : Nat) (y : SV) : (rf bs fr).setIfInBounds d (y.real bs) = rf bs (fset fr d y) := by
  unfold rf
  rw [List.setIfInBounds_toArray]
  congr 1
  induction fr generalizing d with
  | nil => simp [fset]
  | cons x l ih =>
    cases d with
    | zero => simp [fset]
    | succ d => simpa [fset] using ih d

theorem rf_agree {bs bs' : Nat → Nat} {n : Nat} {fr : List SV} (hf : WfFr n fr) (h : ∀ j, j < n → bs' j = bs j) : rf bs' fr = rf bs fr := by
  unfold rf
  congr 1
  exact List.map_congr_left fun s hs => SV.real_agree (hf s hs) h

abbrev Box := TypeId × List Value

/-- What is known of memory that is not a box of the walk's own: a block of cells; a slice that is owned whole; any block; what is only read from now on; anything with a footprint (what it may write, what it reads). -/
inductive HO where
  | cells (b : Nat) (T : TypeId) (cs : List Value)
  | row (v : Value) (E : TypeId) (sz : Nat) (xs : List Value)
  | obj (b : Nat) (o : Obj)
  | any (fx fr : Nat → Prop) (ok : World → Prop)
  | ro (h : HO)

/-- The blocks that a fact speaks of. -/
def HO.fp : HO → Nat → Prop
  | .cells b _ _, k => k = b
  | .row v _ _ _, k => v.ownBlock = some k
  | .obj b _, k => k = b
  | .any fx fr _, k => fx k ∨ fr k
  | .ro h, k => h.fp k

/-- Those of them that may be written. -/
def HO.fpx : HO → Nat → Prop
  | .cells b _ _, k => k = b
  | .row v _ _ _, k => v.ownBlock = some k
  | .obj b _, k => k = b
  | .any fx _ _, k => fx k
  | .ro _, _ => False

theorem HO.fp_of_fpx {h : HO} {b : Nat} (x : h.fpx b) : h.fp b := by
  cases h with
  | any fx fr ok => exact .inl x
  | ro h => exact x.elim
  | _ => exact x

/-- The blocks of a footprint are as they were. -/
structure SameOn (fp : Nat → Prop) (w w' : World) : Prop where
  size : w.heap.size ≤ w'.heap.size
  same : ∀ b, fp b → w'.heap[b]? = w.heap[b]?

/-- A slice value with its cells, the whole block its own. -/
def RowOk (w : World) (v : Value) (E : TypeId) (sz : Nat) (xs : List Value) : Prop :=
  (v = .slice none 0 0 ∧ xs = []) ∨
  ∃ b off len cap arr, v = .slice (some ⟨b, off, none⟩) len cap ∧ w.heap[b]? = some (.cells arr E (0, 0)) ∧ xs.length = len * sz ∧ len ≤ cap ∧ cap ≤ maxLen ∧
    off + cap * sz ≤ arr.size ∧ (arr.toList.drop off).take (len * sz) = xs

def HO.ok (w : World) : HO → Prop
  | .cells b T cs => w.heap[b]? = some (.cells cs.toArray T (0, 0))
  | .row v E sz xs => RowOk w v E sz xs
  | .obj b o => w.heap[b]? = some o
  | .any fx fr ok => ok w ∧ (∀ b, fx b ∨ fr b → b < w.heap.size) ∧ ∀ w1 w2, SameOn (fun b => fx b ∨ fr b) w1 w2 → (∀ b, fx b ∨ fr b → b < w1.heap.size) → ok w1 → ok w2
  | .ro h => h.ok w

theorem lt_of_heap {w : World} {b : Nat} {o : Obj} (h : w.heap[b]? = some o) : b < w.heap.size := (Array.getElem?_eq_some_iff.1 h).1

theorem HO.lt {w : World} : ∀ {h : HO}, h.ok w → ∀ {b : Nat}, h.fp b → b < w.heap.size
  | .cells c T cs, hk, b, hb => by cases hb; exact lt_of_heap hk
  | .row v E sz xs, hk, b, hb => by
    rcases hk with ⟨rfl, _⟩ | ⟨c, off, len, cap, arr, rfl, hh, _⟩
    · simp [HO.fp, Value.ownBlock] at hb
    · simp [HO.fp, Value.ownBlock] at hb; subst hb; exact lt_of_heap hh
  | .obj c o, hk, b, hb => by cases hb; exact lt_of_heap hk
  | .any fx fr ok, hk, b, hb => hk.2.1 b hb
  | .ro h, hk, b, hb => HO.lt (h := h) hk hb

theorem HO.stable {w w' : World} : ∀ {h : HO}, h.ok w → SameOn h.fp w w' → h.ok w'
  | .cells c T cs, hk, hs => (hs.same c rfl).trans hk
  | .row v E sz xs, hk, hs => by
    rcases hk with e | ⟨c, off, len, cap, arr, rfl, hh, rest⟩
    · exact .inl e
    · exact .inr ⟨c, off, len, cap, arr, rfl, (hs.same c (by simp [HO.fp, Value.ownBlock])).trans hh, rest⟩
  | .obj c o, hk, hs => (hs.same c rfl).trans hk
  | .any fx fr ok, hk, hs => ⟨hk.2.2 _ _ hs hk.2.1 hk.1, fun b hb => Nat.lt_of_lt_of_le (hk.2.1 b hb) hs.size, hk.2.2⟩
  | .ro h, hk, hs => HO.stable (h := h) hk hs

/-- Two facts may speak of one block if both only read it. -/
def Apart (h h' : HO) : Prop := ∀ b, h.fp b → h'.fp b → ¬ h.fpx b ∧ ¬ h'.fpx b

theorem Apart.symm {h h' : HO} (a : Apart h h') : Apart h' h := fun b hb hb' => ⟨(a b hb' hb).2, (a b hb' hb).1⟩

/-- The unions of the footprints. -/
def fps (H : List HO) (b : Nat) : Prop := ∃ h ∈ H, h.fp b
def fpsx (H : List HO) (b : Nat) : Prop := ∃ h ∈ H, h.fpx b

theorem fps_of_fpsx {H : List HO} {b : Nat} (h : fpsx H b) : fps H b := by
  obtain ⟨x, hx, hb⟩ := h
  exact ⟨x, hx, HO.fp_of_fpx hb⟩

/-- The world in which the call began, and the blocks of it that the call may write. -/
structure Base where
  w : World
  X : Nat → Prop

/-- From w to w' the world has turned in the blocks of M alone, and grown. -/
structure Keep (M : Nat → Prop) (w w' : World) : Prop where
  os : w'.os = w.os
  tape : w'.tape = w.tape
  output : w'.output = w.output
  size : w.heap.size ≤ w'.heap.size
  block : ∀ k, k < w.heap.size → ¬ M k → w'.heap[k]? = w.heap[k]?

theorem Keep.refl (M : Nat → Prop) (w : World) : Keep M w w := ⟨rfl, rfl, rfl, Nat.le_refl _, fun _ _ _ => rfl⟩

theorem Keep.mono {M M' : Nat → Prop} {w w' : World} (h : Keep M w w') (hm : ∀ b, M b → M' b) : Keep M' w w' :=
  ⟨h.os, h.tape, h.output, h.size, fun k hk hn => h.block k hk fun m => hn (hm k m)⟩

theorem Keep.below {w w' : World} (h : Keep (fun _ => False) w w') : Below w.heap.size w w' := ⟨h.os, h.tape, h.output, h.size, fun k hk => h.block k hk id⟩

theorem Keep.into {M X : Nat → Prop} {w0 w w' : World} (h : Keep M w w') (hb : Keep X w0 w) (hM : ∀ b, M b → X b ∨ w0.heap.size ≤ b) : Keep X w0 w' :=
  ⟨h.os.trans hb.os, h.tape.trans hb.tape, h.output.trans hb.output, Nat.le_trans hb.size h.size, fun k hk hn =>
    (h.block k (Nat.lt_of_lt_of_le hk hb.size) fun m => by rcases hM k m with x | x; exact hn x; omega).trans (hb.block k hk hn)⟩

theorem Keep.trans {M M' : Nat → Prop} {a b c : World} (h : Keep M a b) (k : Keep M' b c) : Keep (fun x => M x ∨ M' x) a c :=
  ⟨k.os.trans h.os, k.tape.trans h.tape, k.output.trans h.output, Nat.le_trans h.size k.size,
    fun i hi hn => (k.block i (Nat.lt_of_lt_of_le hi h.size) fun m => hn (.inr m)).trans (h.block i hi fun m => hn (.inl m))⟩

theorem Keep.drew {M : Nat → Prop} {w w' : World} (h : Keep M w w') : Keep M w w'.drew := ⟨h.os, h.tape, h.output, h.size, h.block⟩

theorem Keep.alloc (M : Nat → Prop) (w : World) (o : Obj) : Keep M w (w.alloc o) :=
  ⟨rfl, rfl, rfl, by simp, fun k hk _ => Below.heap_alloc w o k hk⟩

theorem Keep.sameOn {M fp : Nat → Prop} {w w' : World} (h : Keep M w w') (hlt : ∀ b, fp b → b < w.heap.size) (hd : ∀ b, fp b → ¬ M b) : SameOn fp w w' :=
  ⟨h.size, fun b hb => h.block b (hlt b hb) (hd b hb)⟩

/-- Facts on memory that the call has made, or may write; and that nothing else has turned. -/
structure Hp (w0 : Base) (H : List HO) (w : World) : Prop where
  ext : Keep w0.X w0.w w
  ok : ∀ h ∈ H, h.ok w
  old : ∀ h ∈ H, ∀ b, h.fpx b → w0.X b ∨ w0.w.heap.size ≤ b
  nd : H.Pairwise Apart

/-- The whole of the walk's state and a world. bs: the blocks of the boxes; ks: blocks that are kept (records of loops, marks). -/
structure Rel (w0 : Base) (bs : Nat → Nat) (ks : List (Nat × Obj)) (L : List Box) (H : List HO) (w : World) : Prop where
  hp : Hp w0 H w
  box : ∀ j T cs, L[j]? = some (T, cs) → w.heap[bs j]? = some (.cells cs.toArray T (0, 0))
  bold : ∀ j, j < L.length → w0.w.heap.size ≤ bs j
  bnd : ∀ i j, i < L.length → j < L.length → bs i = bs j → i = j
  bh : ∀ j, j < L.length → ∀ h ∈ H, ¬ h.fp (bs j)
  kok : ∀ x ∈ ks, w.heap[x.1]? = some x.2
  kold : ∀ x ∈ ks, w0.w.heap.size ≤ x.1
  kh : ∀ x ∈ ks, ∀ h ∈ H, ¬ h.fp x.1
  kb : ∀ x ∈ ks, ∀ j, j < L.length → x.1 ≠ bs j

theorem Rel.blt {w0 : Base} {bs : Nat → Nat} {ks : List (Nat × Obj)} {L : List Box} {H : List HO} {w : World} (r : Rel w0 bs ks L H w) {j : Nat} (hj : j < L.length) : bs j < w.heap.size := by
  obtain ⟨T, cs⟩ : Box := L[j]
  exact lt_of_heap (r.box j _ _ (by rw [List.getElem?_eq_getElem hj]))

/-- A step of the world that keeps all but some blocks of H, after which H' holds. -/
theorem Rel.keep {w0 : Base} {bs : Nat → Nat} {ks : List (Nat × Obj)} {L : List Box} {H H' : List HO} {w w' : World} {M : Nat → Prop} (r : Rel w0 bs ks L H w)
    (hk : Keep M w w') (hM : ∀ b, M b → fpsx H b) (hp : Hp w0 H' w') (hf : ∀ h ∈ H', ∀ b, h.fp b → fps H b ∨ w.heap.size ≤ b) : Rel w0 bs ks L H' w' := by
  have nb : ∀ j, j < L.length → ¬ M (bs j) := fun j hj m => by obtain ⟨h, hh, hb⟩ := fps_of_fpsx (hM _ m); exact r.bh j hj h hh hb
  have nk : ∀ x ∈ ks, ¬ M x.1 := fun x hx m => by obtain ⟨h, hh, hb⟩ := fps_of_fpsx (hM _ m); exact r.kh x hx h hh hb
  refine ⟨hp, fun j T cs hj => ?_, r.bold, r.bnd, fun j hj h hh hb => ?_, fun x hx => ?_, r.kold, fun x hx h hh hb => ?_, r.kb⟩
  · have hlt : j < L.length := (List.getElem?_eq_some_iff.1 hj).1
    rw [hk.block _ (r.blt hlt) (nb j hlt)]
    exact r.box j T cs hj
  · rcases hf h hh _ hb with ⟨g, hg, hgb⟩ | hge
    · exact r.bh j hj g hg hgb
    · have := r.blt hj; omega
  · rw [hk.block _ (lt_of_heap (r.kok x hx)) (nk x hx)]
    exact r.kok x hx
  · rcases hf h hh _ hb with ⟨g, hg, hgb⟩ | hge
    · exact r.kh x hx g hg hgb
    · have := lt_of_heap (r.kok x hx); omega

/-- Facts may be given up, or said in other words. -/
def HImp (w0 : Base) (H H' : List HO) : Prop := ∀ w, Hp w0 H w → Hp w0 H' w ∧ (∀ b, fps H' b → fps H b) ∧ ∀ b, fpsx H' b → fpsx H b

theorem HImp.refl (w0 : Base) (H : List HO) : HImp w0 H H := fun _w h => ⟨h, fun _b h => h, fun _b h => h⟩

theorem HImp.trans {w0 : Base} {A B C : List HO} (h : HImp w0 A B) (k : HImp w0 B C) : HImp w0 A C := fun w hw =>
  ⟨(k w (h w hw).1).1, fun b hb => (h w hw).2.1 b ((k w (h w hw).1).2.1 b hb), fun b hb => (h w hw).2.2 b ((k w (h w hw).1).2.2 b hb)⟩

theorem HImp.sub {w0 : Base} {H H' : List HO} (hs : H'.Sublist H) : HImp w0 H H' := fun w hw =>
  ⟨⟨hw.ext, fun h hh => hw.ok h (hs.subset hh), fun h hh => hw.old h (hs.subset hh), hw.nd.sublist hs⟩, fun _b ⟨h, hh, hb⟩ => ⟨h, hs.subset hh, hb⟩, fun _b ⟨h, hh, hb⟩ => ⟨h, hs.subset hh, hb⟩⟩

theorem HImp.perm {w0 : Base} {H H' : List HO} (hs : H.Perm H') : HImp w0 H H' := fun w hw =>
  ⟨⟨hw.ext, fun h hh => hw.ok h (hs.mem_iff.2 hh), fun h hh => hw.old h (hs.mem_iff.2 hh), (hs.pairwise_iff (fun h => Apart.symm h)).1 hw.nd⟩, fun _b ⟨h, hh, hb⟩ => ⟨h, hs.mem_iff.2 hh, hb⟩, fun _b ⟨h, hh, hb⟩ => ⟨h, hs.mem_iff.2 hh, hb⟩⟩

theorem HImp.nil (w0 : Base) (H : List HO) : HImp w0 H [] := HImp.sub (List.nil_sublist H)

theorem HImp.append {w0 : Base} {A B C : List HO} (h : HImp w0 A B) : HImp w0 (A ++ C) (B ++ C) := fun w hw => by
  have hA := h w ⟨hw.ext, fun x hx => hw.ok x (List.mem_append_left _ hx), fun x hx => hw.old x (List.mem_append_left _ hx), (List.pairwise_append.1 hw.nd).1⟩
  have up : ∀ (f : HO → Nat → Prop) b, ((∃ x ∈ B, f x b) → ∃ x ∈ A, f x b) → (∃ x ∈ B ++ C, f x b) → ∃ x ∈ A ++ C, f x b := by
    rintro f b hf ⟨x, hx, hb⟩
    rcases List.mem_append.1 hx with hx | hx
    · obtain ⟨z, hz, hzb⟩ := hf ⟨x, hx, hb⟩
      exact ⟨z, List.mem_append_left _ hz, hzb⟩
    · exact ⟨x, List.mem_append_right _ hx, hb⟩
  refine ⟨⟨hw.ext, fun x hx => ?_, fun x hx => ?_, ?_⟩, fun b => up HO.fp b (hA.2.1 b), fun b => up HO.fpx b (hA.2.2 b)⟩
  · rcases List.mem_append.1 hx with hx | hx
    · exact hA.1.ok x hx
    · exact hw.ok x (List.mem_append_right _ hx)
  · rcases List.mem_append.1 hx with hx | hx
    · exact hA.1.old x hx
    · exact hw.old x (List.mem_append_right _ hx)
  · refine List.pairwise_append.2 ⟨hA.1.nd, (List.pairwise_append.1 hw.nd).2.1, fun x hx y hy b hb hb' => ?_⟩
    have hAC := (List.pairwise_append.1 hw.nd).2.2
    obtain ⟨z, hz, hzb⟩ := hA.2.1 b ⟨x, hx, hb⟩
    refine ⟨fun hxx => ?_, (hAC z hz y hy b hzb hb').2⟩
    obtain ⟨z', hz', hzb'⟩ := hA.2.2 b ⟨x, hx, hxx⟩
    exact (hAC z' hz' y hy b (HO.fp_of_fpx hzb') hb').1 hzb'

theorem HImp.cons {w0 : Base} {h : HO} {A B : List HO} (k : HImp w0 A B) : HImp w0 (h :: A) (h :: B) := by
  have := (k.append (C := [h]))
  exact (HImp.perm (List.perm_append_comm (l₁ := [h]) (l₂ := A))).trans (this.trans (HImp.perm (List.perm_append_comm (l₁ := B) (l₂ := [h]))))

theorem Rel.imp {w0 : Base} {bs : Nat → Nat} {ks : List (Nat × Obj)} {L : List Box} {H H' : List HO} {w : World} (r : Rel w0 bs ks L H w) (hi : HImp w0 H H') : Rel w0 bs ks L H' w :=
  r.keep (Keep.refl (fun _ => False) w) (fun _ h => h.elim) (hi w r.hp).1 fun h hh b hb => .inl ((hi w r.hp).2.1 b ⟨h, hh, hb⟩)

/-- A step that writes nothing that was there. -/
theorem Hp.keep {w0 : Base} {H : List HO} {w w' : World} (hp : Hp w0 H w) (hk : Keep (fun _ => False) w w') : Hp w0 H w' :=
  ⟨hk.into hp.ext (fun _ h => h.elim), fun h hh => HO.stable (hp.ok h hh) (hk.sameOn (fun _ hb => HO.lt (hp.ok h hh) hb) fun _ _ => id), hp.old, hp.nd⟩

/-- A new block beside all facts. -/
theorem Hp.alloc {w0 : Base} {H : List HO} {w : World} (hp : Hp w0 H w) (o : Obj) : Hp w0 H (w.alloc o) := hp.keep (Keep.alloc _ w o)

/-- A new fact on blocks that are new. -/
theorem Hp.cons {w0 : Base} {H : List HO} {w : World} (hp : Hp w0 H w) {h : HO} (hk : h.ok w) (hn : ∀ b, h.fp b → w0.X b ∨ w0.w.heap.size ≤ b) (ha : ∀ b, h.fp b → ¬ fps H b) : Hp w0 (h :: H) w :=
  ⟨hp.ext, fun x hx => by rcases List.mem_cons.1 hx with rfl | hx; exact hk; exact hp.ok x hx, fun x hx => by rcases List.mem_cons.1 hx with rfl | hx; exact fun b hb => hn b (HO.fp_of_fpx hb); exact hp.old x hx,
    List.pairwise_cons.2 ⟨fun x hx b hb hb' => (ha b hb ⟨x, hx, hb'⟩).elim, hp.nd⟩⟩

theorem Hp.drew {w0 : Base} {H : List HO} {w : World} (hp : Hp w0 H w) : Hp w0 H w.drew := hp.keep (Keep.drew (Keep.refl _ w))

theorem Rel.drew {w0 : Base} {bs : Nat → Nat} {ks : List (Nat × Obj)} {L : List Box} {H : List HO} {w : World} (r : Rel w0 bs ks L H w) : Rel w0 bs ks L H w.drew :=
  r.keep (Keep.drew (Keep.refl (fun _ => False) w)) (fun _ h => h.elim) r.hp.drew fun h hh b hb => .inl ⟨h, hh, hb⟩

/-- A new fact whose blocks are new. -/
theorem Rel.newHO {w0 : Base} {bs : Nat → Nat} {ks : List (Nat × Obj)} {L : List Box} {H : List HO} {w w' : World} (r : Rel w0 bs ks L H w) (hk : Keep (fun _ => False) w w') {h : HO} (ho : h.ok w') (hn : ∀ b, h.fp b → w.heap.size ≤ b) : Rel w0 bs ks L (h :: H) w' := by
  refine r.keep hk (fun _ h => h.elim) ((r.hp.keep hk).cons ho (fun b hb => .inr (Nat.le_trans r.hp.ext.size (hn b hb))) fun b hb ⟨x, hx, hxb⟩ => ?_) fun x hx b hb => ?_
  · have := HO.lt (r.hp.ok x hx) hxb
    have := hn b hb
    omega
  · rcases List.mem_cons.1 hx with rfl | hx
    · exact .inr (hn b hb)
    · exact .inl ⟨x, hx, hb⟩

/-- A new box. -/
theorem Rel.newBox {w0 : Base} {bs : Nat → Nat} {ks : List (Nat × Obj)} {L : List Box} {H : List HO} {w : World} (r : Rel w0 bs ks L H w) (T : TypeId) (cs : List Value) :
    ∃ bs', (∀ j, j < L.length → bs' j = bs j) ∧ bs' L.length = w.heap.size ∧ Rel w0 bs' ks (L ++ [(T, cs)]) H (w.alloc (.cells cs.toArray T)) := by
  refine ⟨fun j => if j = L.length then w.heap.size else bs j, fun j hj => by simp [Nat.ne_of_lt hj], by simp, ?_⟩
  have hne : ∀ j, j < L.length → bs j ≠ w.heap.size := fun j hj => Nat.ne_of_lt (r.blt hj)
  refine ⟨r.hp.alloc _, fun j T' cs' hj => ?_, fun j hj => ?_, fun i j hi hj e => ?_, fun j hj h hh hb => ?_, fun x hx => ?_, r.kold, r.kh, fun x hx j hj => ?_⟩
  · by_cases h : j = L.length
    · subst h
      simp at hj
      obtain ⟨rfl, rfl⟩ := hj
      simp only [if_true]
      exact heap_alloc_new w _
    · have hlt : j < L.length := by
        have := (List.getElem?_eq_some_iff.1 hj).1
        simp at this; omega
      rw [List.getElem?_append_left hlt] at hj
      simp only [h, if_false]
      rw [Below.heap_alloc w _ _ (r.blt hlt)]
      exact r.box j T' cs' hj
  · simp at hj
    by_cases h : j = L.length
    · simp only [h, if_true]; exact r.hp.ext.size
    · simp only [h, if_false]; exact r.bold j (by omega)
  · simp at hi hj
    by_cases h : i = L.length <;> by_cases h' : j = L.length
    · omega
    · simp only [h, h', if_true, if_false] at e
      exact absurd e.symm (hne j (by omega))
    · simp only [h, h', if_true, if_false] at e
      exact absurd e (hne i (by omega))
    · simp only [h, h', if_false] at e
      exact r.bnd i j (by omega) (by omega) e
  · simp at hj
    by_cases h' : j = L.length
    · simp only [h', if_true] at hb
      have := HO.lt (r.hp.ok h hh) hb
      omega
    · simp only [h', if_false] at hb
      exact r.bh j (by omega) h hh hb
  · rw [Below.heap_alloc w _ _ (lt_of_heap (r.kok x hx))]
    exact r.kok x hx
  · simp at hj
    by_cases h : j = L.length
    · simp only [h, if_true]
      exact Nat.ne_of_lt (lt_of_heap (r.kok x hx))
    · simp only [h, if_false]
      exact r.kb x hx j (by omega)

/-- The contents of box j. -/
def lset : List Box → Nat → List Value → List Box
  | [], _, _ => []
  | x :: l, 0, y => (x.1, y) :: l
  | x :: l, j + 1, y => x :: lset l j y

theorem length_lset : ∀ (L : List Box) (j : Nat) (y : List Value), (lset L j y).length = L.length
  | [], _, _ => rfl
  | _ :: _, 0, _ => rfl
  | _ :: l, j + 1, y => by simp [lset, length_lset l j y]

theorem lset_get : ∀ (L : List Box) (j : Nat) (y : List Value) (i : Nat), (lset L j y)[i]? = if i = j then L[i]?.map (fun x => (x.1, y)) else L[i]?
  | [], j, y, i => by simp [lset]
  | x :: l, 0, y, 0 => by simp [lset]
  | x :: l, 0, y, i + 1 => by simp [lset]
  | x :: l, j + 1, y, 0 => by simp [lset]
  | x :: l, j + 1, y, i + 1 => by simpa [lset] using lset_get l j y i

/-- A box is written. -/
theorem Rel.setBox {w0 : Base} {bs : Nat → Nat} {ks : List (Nat × Obj)} {L : List Box} {H : List HO} {w w' : World} (r : Rel w0 bs ks L H w) {j : Nat} {T : TypeId} {cs cs' : List Value} (hj : L[j]? = some (T, cs))
    (hk : Keep (fun b => b = bs j) w w') (hn : w'.heap[bs j]? = some (.cells cs'.toArray T (0, 0))) : Rel w0 bs ks (lset L j cs') H w' := by
  have hlt : j < L.length := (List.getElem?_eq_some_iff.1 hj).1
  have hsame : ∀ h ∈ H, SameOn h.fp w w' := fun h hh => hk.sameOn (fun _ hb => HO.lt (r.hp.ok h hh) hb) fun b hb e => r.bh j hlt h hh (e ▸ hb)
  refine ⟨⟨hk.into r.hp.ext (fun b e => .inr (e ▸ r.bold j hlt)), fun h hh => HO.stable (r.hp.ok h hh) (hsame h hh), r.hp.old, r.hp.nd⟩, fun i T' cs'' hi => ?_, fun i hi => r.bold i (by rwa [length_lset] at hi), fun i k hi hk' => r.bnd i k (by rwa [length_lset] at hi) (by rwa [length_lset] at hk'),
    fun i hi => r.bh i (by rwa [length_lset] at hi), fun x hx => ?_, r.kold, r.kh, fun x hx i hi => r.kb x hx i (by rwa [length_lset] at hi)⟩
  · rw [lset_get] at hi
    by_cases e : i = j
    · subst e
      simp [hj] at hi
      obtain ⟨rfl, rfl⟩ := hi
      exact hn
    · rw [if_neg e] at hi
      have hil : i < L.length := (List.getElem?_eq_some_iff.1 hi).1
      rw [hk.block _ (r.blt hil) fun e' => e (r.bnd i j hil hlt e')]
      exact r.box i T' cs'' hi
  · rw [hk.block _ (lt_of_heap (r.kok x hx)) fun e => r.kb x hx j hlt e]
    exact r.kok x hx

/-- The last boxes are given up. -/
theorem Rel.take {w0 : Base} {bs : Nat → Nat} {ks : List (Nat × Obj)} {L : List Box} {H : List HO} {w : World} (r : Rel w0 bs ks L H w) (n : Nat) : Rel w0 bs ks (L.take n) H w := by
  have hl : ∀ {j}, j < (L.take n).length → j < L.length := fun h => by simp at h; omega
  refine ⟨r.hp, fun j T cs hj => ?_, fun j hj => r.bold j (hl hj), fun i j hi hj => r.bnd i j (hl hi) (hl hj), fun j hj => r.bh j (hl hj), r.kok, r.kold, r.kh, fun x hx j hj => r.kb x hx j (hl hj)⟩
  rw [List.getElem?_take] at hj
  split at hj
  · exact r.box j T cs hj
  · cases hj

/-- The hidden blocks agree with others on the boxes that there are. -/
theorem Rel.agree {w0 : Base} {bs bs' : Nat → Nat} {ks : List (Nat × Obj)} {L : List Box} {H : List HO} {w : World} (r : Rel w0 bs ks L H w) (h : ∀ j, j < L.length → bs' j = bs j) : Rel w0 bs' ks L H w :=
  ⟨r.hp, fun j T cs hj => by rw [h j (List.getElem?_eq_some_iff.1 hj).1]; exact r.box j T cs hj, fun j hj => by rw [h j hj]; exact r.bold j hj, fun i j hi hj e => by rw [h i hi, h j hj] at e; exact r.bnd i j hi hj e,
    fun j hj => by rw [h j hj]; exact r.bh j hj, r.kok, r.kold, r.kh, fun x hx j hj => by rw [h j hj]; exact r.kb x hx j hj⟩

/-- From one state to a later one: what may have been written, and where new facts and boxes lie. -/
structure Frm (bs : Nat → Nat) (L : List Box) (H : List HO) (w : World) (bs' : Nat → Nat) (L' : List Box) (H' : List HO) (w' : World) : Prop where
  keep : Keep (fun b => fpsx H b ∨ ∃ j, j < L.length ∧ b = bs j) w w'
  fp : ∀ b, fps H' b → fps H b ∨ w.heap.size ≤ b
  fx : ∀ b, fpsx H' b → fpsx H b ∨ w.heap.size ≤ b
  bx : ∀ j, j < L'.length → (∃ i, i < L.length ∧ bs' j = bs i) ∨ w.heap.size ≤ bs' j

theorem Frm.refl (bs : Nat → Nat) (L : List Box) (H : List HO) (w : World) : Frm bs L H w bs L H w :=
  ⟨Keep.refl _ w, fun _ h => .inl h, fun _ h => .inl h, fun j hj => .inl ⟨j, hj, rfl⟩⟩

theorem Frm.trans {bs bs1 bs2 : Nat → Nat} {L L1 L2 : List Box} {H H1 H2 : List HO} {w w1 w2 : World} (h : Frm bs L H w bs1 L1 H1 w1) (k : Frm bs1 L1 H1 w1 bs2 L2 H2 w2) : Frm bs L H w bs2 L2 H2 w2 := by
  refine ⟨k.keep.into h.keep fun b hb => ?_, fun b hb => ?_, fun b hb => ?_, fun j hj => ?_⟩
  · rcases hb with hb | ⟨j, hj, rfl⟩
    · rcases h.fx b hb with x | x
      · exact .inl (.inl x)
      · exact .inr x
    · rcases h.bx j hj with ⟨i, hi, e⟩ | x
      · exact .inl (.inr ⟨i, hi, e⟩)
      · exact .inr x
  · rcases k.fp b hb with x | x
    · exact h.fp b x
    · exact .inr (Nat.le_trans h.keep.size x)
  · rcases k.fx b hb with x | x
    · exact h.fx b x
    · exact .inr (Nat.le_trans h.keep.size x)
  · rcases k.bx j hj with ⟨i, hi, e⟩ | x
    · rw [e]; exact h.bx i hi
    · exact .inr (Nat.le_trans h.keep.size x)

/-- Facts said in other words; boxes given up. -/
theorem Frm.imp {w0 : Base} {bs bs' : Nat → Nat} {L L' : List Box} {H H' H2 : List HO} {w w' : World} (h : Frm bs L H w bs' L' H' w') (hp : Hp w0 H' w') (hi : HImp w0 H' H2) : Frm bs L H w bs' L' H2 w' :=
  ⟨h.keep, fun b hb => h.fp b ((hi w' hp).2.1 b hb), fun b hb => h.fx b ((hi w' hp).2.2 b hb), h.bx⟩

theorem Frm.take {bs bs' : Nat → Nat} {L L' : List Box} {H H' : List HO} {w w' : World} (h : Frm bs L H w bs' L' H' w') (n : Nat) : Frm bs L H w bs' (L'.take n) H' w' :=
  ⟨h.keep, h.fp, h.fx, fun j hj => h.bx j (by simp at hj; omega)⟩

theorem Frm.len {bs bs' : Nat → Nat} {L L' L2 : List Box} {H H' : List HO} {w w' : World} (h : Frm bs L H w bs' L' H' w') (hl : L2.length = L'.length) : Frm bs L H w bs' L2 H' w' :=
  ⟨h.keep, h.fp, h.fx, fun j hj => h.bx j (by omega)⟩

/-- Nothing but new blocks. -/
theorem Frm.new {bs : Nat → Nat} {L : List Box} {H H' : List HO} {w w' : World} (hk : Keep (fun _ => False) w w') (hf : ∀ h ∈ H', ∀ b, h.fp b → h ∈ H ∨ w.heap.size ≤ b) : Frm bs L H w bs L H' w' :=
  ⟨hk.mono fun _ h => h.elim, fun b ⟨h, hh, hb⟩ => (hf h hh b hb).imp (fun x => ⟨h, x, hb⟩) id, fun b ⟨h, hh, hb⟩ => (hf h hh b (HO.fp_of_fpx hb)).imp (fun x => ⟨h, x, hb⟩) id, fun j hj => .inl ⟨j, hj, rfl⟩⟩

/-- How far a state has come. -/
structure Come (bs bs' : Nat → Nat) (L L' : List Box) (H H' : List HO) (w w' : World) : Prop where
  agree : ∀ j, j < L.length → bs' j = bs j
  le : L.length ≤ L'.length
  frm : Frm bs L H w bs' L' H' w'

theorem Come.refl (bs : Nat → Nat) (L : List Box) (H : List HO) (w : World) : Come bs bs L L H H w w := ⟨fun _ _ => rfl, Nat.le_refl _, Frm.refl _ _ _ _⟩
theorem Come.trans {a b c : Nat → Nat} {A B C : List Box} {HA HB HC : List HO} {wa wb wc : World} (h : Come a b A B HA HB wa wb) (k : Come b c B C HB HC wb wc) : Come a c A C HA HC wa wc :=
  ⟨fun j hj => (k.agree j (Nat.lt_of_lt_of_le hj h.le)).trans (h.agree j hj), Nat.le_trans h.le k.le, h.frm.trans k.frm⟩

end Go.SX
