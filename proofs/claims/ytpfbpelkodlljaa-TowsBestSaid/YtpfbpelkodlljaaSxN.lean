/- The rules by which simp carries out the walk, and the congruences that keep it from looking into what comes later. Written by gen_sxn.py. -/
import Derived.Test.YtpfbpelkodlljaaSxM
set_option linter.all false
namespace Go.SX
open Go.RowKit

/-- What the walk leaves to its reader: simp looks no further. -/
structure TagF (p : List SV → List Box → List HO → Prop) : Type where
  n : Nat
/-- What the walk leaves to its reader, once frame, boxes and facts are told plainly. -/
def ev3 (p : List SV → List Box → List HO → Prop) (_ : TagF p) (fr : List SV) (L : List Box) (H : List HO) : Prop := p fr L H

/-- What goes on once frame, boxes and facts are told plainly. -/
def ev2 (p : List SV → List Box → List HO → Prop) (_ : TagF p) (fr : List SV) (L : List Box) (H : List HO) : Prop := p fr L H

structure Tag (p : Prop) : Type where
  n : Nat
def hold (p : Prop) (_ : Tag p) : Prop := p

def orB (a b : Bool) : Bool := bif a then true else b

def seq1 (t : Bool) (E : Env) (a b : Code) (Q : XSt) (fr : List SV) (L : List Box) (H : List HO) : Prop :=
  bif t then hold (CutOb E.w0 (W E a) (W E b Q) Q fr L H) ⟨0⟩ else W E a (seqQ (W E b Q) Q) fr L H

def rng1 (s : SV) (P : Program) (w0 : Base) (Ba Bb : XSt → St) (ps : List Tmp) (Q : XSt) (fr : List SV) (L : List Box) (H : List HO) : Prop := RangeOb P w0 Ba Bb s ps Q fr L H

def yld1 (args : List Value) (E : Env) (dr : Bool) (l : Nat) (L : List Box) (H : List HO) (k : SV → List Box → List HO → Prop) : Prop := CallOb E.P E.w0 dr (.yield l) args H fun v H => k (.v v) L H

def app1 (k : Option (TypeId × Nat × List Value × Nat)) (w0 : Base) (s x : Value) (H : List HO) (K : Value → List HO → Prop) : Prop := AppOb w0 k s x H K

def wr1 (vs : List Value) (H : List HO) (a : Addr) (K : List HO → Prop) : Prop := WrOb H a vs K

def ones : List Nat → Plan → Plan
  | [], p => p
  | i :: l, p => .one i (ones l p)

def nthO : List Oper → Nat → Option Oper
  | [], _ => none
  | o :: _, 0 => some o
  | _ :: l, n + 1 => nthO l n

theorem nthO_eq : ∀ (l : List Oper) (i : Nat), nthO l i = l[i]?
  | [], _ => rfl
  | _ :: _, 0 => rfl
  | _ :: l, n + 1 => nthO_eq l n

def one1 (E : Env) (all : List Oper) (o : Option Oper) (fr : List SV) (L : List Box) (H : List HO) (k : List SV → List Box → List HO → Prop) : Prop :=
  match o with
  | some o => execs E true all [o] fr L H k
  | none => False

def cnd1 (s : SV) (c : Operand) (fr : List SV) (yes no : List SV → Prop) : Prop :=
  match s with
  | .b t => bif t then yes fr else no fr
  | .v (.bool t) => match c with
    | .tmp d => (t = true → yes (fset fr d (.b true))) ∧ (t = false → no (fset fr d (.b false)))
    | _ => (t = true → yes fr) ∧ (t = false → no fr)
  | _ => False

def gd1 (s : SV) (fr : List SV) (d : Nat) (want : Bool) (yes no : List SV → Prop) : Prop :=
  match s with
  | .b t => bif t == want then yes fr else no fr
  | .v (.bool t) => (t = want → yes (fset fr d (.b want))) ∧ (t = !want → no (fset fr d (.b !want)))
  | .v (.tuple _) => no fr
  | _ => False

def bld1 (a : Option (List Value)) (K : SV → Prop) : Prop :=
  match a with
  | some cs => K (.v (.agg cs.toArray))
  | none => False

def bldS (a : Option (List (Nat × Nat))) (b : Option (List Value)) (ps : List (Nat × Value)) (K : SV → Prop) : Prop :=
  match a, b with
  | some pl, some z => bld1 (fillS pl z ps) K
  | _, _ => False

def fil1 (x : Option (Nat × Nat)) (pl : List (Nat × Nat)) (cs vs : List Value) (r : List (Nat × Value)) : Option (List Value) :=
  match x with
  | some (o, n) => if vs.length = n ∧ o + n ≤ cs.length then fillS pl (cs.take o ++ vs ++ cs.drop (o + n)) r else none
  | none => none

theorem fill_rule (pl : List (Nat × Nat)) (cs : List Value) (i : Nat) (v : Value) (r : List (Nat × Value)) : fillS pl cs ((i, v) :: r) = fil1 (pl[i]?) pl cs (vcells v) r := by
  simp only [fillS, fil1, vcells]
  cases pl[i]? <;> rfl

theorem build_rule (E : Env) (dr : Bool) (fr : List SV) (L : List Box) (H : List HO) (d : Option Nat) (k : SV → List Box → List HO → Prop) (T : TypeId) (ps : List (Nat × Operand)) :
    exec1 E dr fr L H d (.build T ps.toArray) k = withVs (ps.map fun p => op1 fr p.2) fun xs => bldS (placesT E.P T) (zeroT E.P T) ((ps.map (·.1)).zip xs) fun s => k s L H := by
  have key : ∀ xs : List Value, (∃ pl z cs, placesT E.P T = some pl ∧ zeroT E.P T = some z ∧ fillS pl z ((ps.map (·.1)).zip xs) = some cs ∧ k (.v (.agg cs.toArray)) L H) = bldS (placesT E.P T) (zeroT E.P T) ((ps.map (·.1)).zip xs) fun s => k s L H := by
    intro xs
    unfold bldS bld1
    cases placesT E.P T with
    | none => simp
    | some pl =>
      cases zeroT E.P T with
      | none => simp
      | some z =>
        simp only [Option.some.injEq, exists_eq_left']
        cases hfs : fillS pl z ((ps.map (·.1)).zip xs) with
        | none => simp [hfs]
        | some cs => simp [hfs]
  show withVs _ (fun xs => _) = _
  congr 1
  funext xs
  exact key xs

def allocS (E : Env) (d : Option Nat) (T : TypeId) (z : Option (List Value)) (L : List Box) (H : List HO) (k : SV → List Box → List HO → Prop) : Prop :=
  match z with
  | some cs => newBox E d T cs L H k
  | none => False

theorem alloc_rule (E : Env) (dr : Bool) (fr : List SV) (L : List Box) (H : List HO) (d : Option Nat) (k : SV → List Box → List HO → Prop) (T : TypeId) :
    exec1 E dr fr L H d (.alloc T) k = allocS E d T (zeroT E.P T) L H k := by
  show (∃ z, zeroT E.P T = some z ∧ newBox E d T z L H k) = _
  unfold allocS
  cases zeroT E.P T with
  | none => simp
  | some z => simp

def inRe (d : Nat) : List Nat → Bool
  | [] => false
  | e :: l => bif d == e then true else inRe d l

theorem inRe_eq (d : Nat) : ∀ l : List Nat, l.contains d = inRe d l
  | [] => rfl
  | e :: l => by
    rw [List.contains_cons, inRe, inRe_eq d l]
    cases d == e <;> rfl

def nb1 (t : Bool) (T : TypeId) (cs : List Value) (L : List Box) (H : List HO) (k : SV → List Box → List HO → Prop) : Prop :=
  match t with
  | true => ∀ b, k (.v (.pointer (some ⟨b, 0, none⟩))) L (.cells b T cs :: H)
  | false => k (.p L.length 0) (L ++ [(T, cs)]) H

theorem nb_rule (E : Env) (T : TypeId) (cs : List Value) (L : List Box) (H : List HO) (k : SV → List Box → List HO → Prop) (d : Nat) : newBox E (some d) T cs L H k = nb1 (inRe d E.re) T cs L H k := by
  unfold newBox nb1
  simp only [inRe_eq]
  cases inRe d E.re <;> simp

def ldb1 (o : Option Value) (K : SV → Prop) : Prop :=
  match o with
  | some v => K (.v v)
  | none => False

theorem ldb_eq (o : Option Value) (K : SV → Prop) : (∃ v, o = some v ∧ K (.v v)) = ldb1 o K := by
  unfold ldb1
  cases o <;> simp

theorem ldb_rule (cs : List Value) (o : Nat) (K : SV → Prop) : ldBox cs o none K = ldb1 (cs[o]?) K := by
  show (∃ v, cs[o]? = some v ∧ K (.v v)) = _
  unfold ldb1
  cases cs[o]? <;> simp

def cv1 (a b : Option IntKind) (x : Value) (K : SV → Prop) : Prop :=
  match a, b, x with
  | some k1, some k2, .int k n => k1 = k ∧ K (.v (.int k2 (k2.wrap n)))
  | _, _, _ => False

theorem cv_rule (E : Env) (dr : Bool) (fr : List SV) (L : List Box) (H : List HO) (d : Option Nat) (k : SV → List Box → List HO → Prop) (S T : TypeId) (x : Operand) :
    exec1 E dr fr L H d (.convert S T x) k = withV (op1 fr x) fun x => cv1 (intT E.P S) (intT E.P T) x fun s => k s L H := by
  show withV _ (fun x => _) = _
  congr 1
  funext x
  unfold cv1
  cases intT E.P S <;> cases intT E.P T <;> cases x <;> simp
  exact ⟨fun ⟨_, ⟨a, b⟩, c⟩ => ⟨a.symm, b ▸ c⟩, fun ⟨a, c⟩ => ⟨_, ⟨a.symm, rfl⟩, c⟩⟩

def bs1 (a : Option (List Value)) (K : List Value → Prop) : Prop :=
  match a with
  | some cs => K cs
  | none => False

def slotsL : Nat → Nat → Nat → List (Nat × Nat)
  | 0, _, _ => []
  | n + 1, i, sz => (i * sz, sz) :: slotsL n (i + 1) sz

theorem slots_eq (sz : Nat) : ∀ n i, slotsL n i sz = (List.range' i n).map fun i => (i * sz, sz)
  | 0, i => rfl
  | n + 1, i => by rw [slotsL, List.range'_succ, List.map_cons, slots_eq sz n (i + 1)]

theorem slots_range (sz n : Nat) : slotsL n 0 sz = (List.range n).map fun i => (i * sz, sz) := by rw [slots_eq, List.range_eq_range']

def zersL : Nat → List Value → List Value
  | 0, _ => []
  | n + 1, z => z ++ zersL n z

theorem zers_eq (z : List Value) : ∀ n, zersL n z = zerosL n z
  | 0 => rfl
  | n + 1 => by rw [zersL, zers_eq z n, zerosL, zerosL, List.replicate_succ, List.flatten_cons]

theorem bs_rule (e sz bytes : Nat) (z : List Value) (n : Nat) (ps : List (Nat × Value)) (L : List Box) (H : List HO) (k : SV → List Box → List HO → Prop) :
    bsS (some (e, sz, z, bytes)) n ps L H k = (n * sz ≤ 16777216 ∧ bs1 (fillS (slotsL n 0 sz) (zersL n z) ps) fun cs => ∀ b, k (.v (.slice (some ⟨b, 0, none⟩) n n)) L (.row (.slice (some ⟨b, 0, none⟩) n n) e sz cs :: H)) := by
  rw [slots_range, zers_eq]
  unfold bsS bs1
  cases hfs : fillS ((List.range n).map fun i => (i * sz, sz)) (zerosL n z) ps <;> simp [hfs]

def call1 (v : Option Value) (E : Env) (dr : Bool) (g : Nat) (args : List Value) (L : List Box) (H : List HO) (k : SV → List Box → List HO → Prop) : Prop :=
  match v with
  | some v => k (.v v) L H
  | none => CallOb E.P E.w0 dr (.fn g) args H fun v H => k (.v v) L H

theorem inv_rule (E : Env) (dr : Bool) (args : List Value) (L : List Box) (H : List HO) (k : SV → List Box → List HO → Prop) (g : Nat) (first cap : List Value) :
    invS E dr (.v (.func (.func g) first.toArray cap.toArray)) args L H k = (CallT E.P g ∧ call1 (E.det g (first ++ args ++ cap)) E dr g (first ++ args ++ cap) L H k) := by
  show (_ ∧ callS _ _ _ _ _ _ _) = _
  unfold callS call1
  rfl

@[congr] theorem W_cg {E : Env} {c : Code} {Q : XSt} {fr : List SV} {L : List Box} {H : List HO} {fr' : List SV} {L' : List Box} (hfr : fr = fr') (hL : L = L') : W E c Q fr L H = W E c Q fr' L' H := by subst hfr; subst hL; rfl
@[congr] theorem seq1_cg {t : Bool} {E : Env} {a : Code} {b : Code} {Q : XSt} {fr : List SV} {L : List Box} {H : List HO} {t' : Bool} (ht : t = t') : seq1 t E a b Q fr L H = seq1 t' E a b Q fr L H := by subst ht; rfl
@[congr] theorem cutL_cg {l : List Nat} {a : Code} {b : Code} {l' : List Nat} (hl : l = l') : cutL l a b = cutL l' a b := by subst hl; rfl
@[congr] theorem headR_cg {a : Code} : headR a = headR a := rfl
@[congr] theorem tailR_cg {a : Code} : tailR a = tailR a := rfl
@[congr] theorem execs_cg {E : Env} {dr : Bool} {all : List Oper} {l : List Oper} {fr : List SV} {L : List Box} {H : List HO} {k : St} {l' : List Oper} {fr' : List SV} {L' : List Box} (hl : l = l') (hfr : fr = fr') (hL : L = L') : execs E dr all l fr L H k = execs E dr all l' fr' L' H k := by subst hl; subst hfr; subst hL; rfl
@[congr] theorem exec1_cg {E : Env} {dr : Bool} {fr : List SV} {L : List Box} {H : List HO} {d : Option Nat} {op : Op} {k : SV → List Box → List HO → Prop} : exec1 E dr fr L H d op k = exec1 E dr fr L H d op k := rfl
@[congr] theorem nb1_cg {t : Bool} {T : TypeId} {cs : List Value} {L : List Box} {H : List HO} {k : SV → List Box → List HO → Prop} {t' : Bool} {cs' : List Value} (ht : t = t') (hcs : cs = cs') : nb1 t T cs L H k = nb1 t' T cs' L H k := by subst ht; subst hcs; rfl
@[congr] theorem ldb1_cg {o : Option Value} {K : SV → Prop} {o' : Option Value} (ho : o = o') : ldb1 o K = ldb1 o' K := by subst ho; rfl
@[congr] theorem cv1_cg {a : Option IntKind} {b : Option IntKind} {x : Value} {K : SV → Prop} {a' : Option IntKind} {b' : Option IntKind} {x' : Value} (ha : a = a') (hb : b = b') (hx : x = x') : cv1 a b x K = cv1 a' b' x' K := by subst ha; subst hb; subst hx; rfl
@[congr] theorem rng1_cg {s : SV} {P : Program} {w0 : Base} {Ba : XSt → St} {Bb : XSt → St} {ps : List Tmp} {Q : XSt} {fr : List SV} {L : List Box} {H : List HO} {s' : SV} {fr' : List SV} {L' : List Box} (hs : s = s') (hfr : fr = fr') (hL : L = L') : rng1 s P w0 Ba Bb ps Q fr L H = rng1 s' P w0 Ba Bb ps Q fr' L' H := by subst hs; subst hfr; subst hL; rfl
@[congr] theorem yld1_cg {args : List Value} {E : Env} {dr : Bool} {l : Nat} {L : List Box} {H : List HO} {k : SV → List Box → List HO → Prop} {args' : List Value} (hargs : args = args') : yld1 args E dr l L H k = yld1 args' E dr l L H k := by subst hargs; rfl
@[congr] theorem app1_cg {k : Option (TypeId × Nat × List Value × Nat)} {w0 : Base} {s : Value} {x : Value} {H : List HO} {K : Value → List HO → Prop} {k' : Option (TypeId × Nat × List Value × Nat)} {s' : Value} {x' : Value} (hk : k = k') (hs : s = s') (hx : x = x') : app1 k w0 s x H K = app1 k' w0 s' x' H K := by subst hk; subst hs; subst hx; rfl
@[congr] theorem wr1_cg {vs : List Value} {H : List HO} {a : Addr} {K : List HO → Prop} {vs' : List Value} {a' : Addr} (hvs : vs = vs') (ha : a = a') : wr1 vs H a K = wr1 vs' H a' K := by subst hvs; subst ha; rfl
@[congr] theorem planS_cg {E : Env} {o : Option Plan} {ops : List Oper} {fr : List SV} {L : List Box} {H : List HO} {k : St} {o' : Option Plan} {fr' : List SV} {L' : List Box} (ho : o = o') (hfr : fr = fr') (hL : L = L') : planS E o ops fr L H k = planS E o' ops fr' L' H k := by subst ho; subst hfr; subst hL; rfl
@[congr] theorem execsP_cg {E : Env} {all : List Oper} {p : Plan} {fr : List SV} {L : List Box} {H : List HO} {k : St} {fr' : List SV} {L' : List Box} (hfr : fr = fr') (hL : L = L') : execsP E all p fr L H k = execsP E all p fr' L' H k := by subst hfr; subst hL; rfl
@[congr] theorem one1_cg {E : Env} {all : List Oper} {o : Option Oper} {fr : List SV} {L : List Box} {H : List HO} {k : St} {o' : Option Oper} {fr' : List SV} {L' : List Box} (ho : o = o') (hfr : fr = fr') (hL : L = L') : one1 E all o fr L H k = one1 E all o' fr' L' H k := by subst ho; subst hfr; subst hL; rfl
@[congr] theorem withV_cg {s : SV} {K : Value → Prop} {s' : SV} (hs : s = s') : withV s K = withV s' K := by subst hs; rfl
@[congr] theorem withVs_cg {s : List SV} {K : List Value → Prop} {s' : List SV} (hs : s = s') : withVs s K = withVs s' K := by subst hs; rfl
@[congr] theorem optV_cg {s : Option SV} {K : Option Value → Prop} {s' : Option SV} (hs : s = s') : optV s K = optV s' K := by subst hs; rfl
@[congr] theorem pickS_cg {c : SV} {a : SV} {b : SV} {K : SV → Prop} {c' : SV} {a' : SV} {b' : SV} (hc : c = c') (ha : a = a') (hb : b = b') : pickS c a b K = pickS c' a' b' K := by subst hc; subst ha; subst hb; rfl
@[congr] theorem ncS_cg {s : SV} {K : SV → Prop} {s' : SV} (hs : s = s') : ncS s K = ncS s' K := by subst hs; rfl
@[congr] theorem ldS_cg {w0 : Base} {L : List Box} {H : List HO} {k : Option (Option Nat)} {s : SV} {K : SV → Prop} {L' : List Box} {k' : Option (Option Nat)} {s' : SV} (hL : L = L') (hk : k = k') (hs : s = s') : ldS w0 L H k s K = ldS w0 L' H k' s' K := by subst hL; subst hk; subst hs; rfl
@[congr] theorem ldBox_cg {cs : List Value} {o : Nat} {k : Option Nat} {K : SV → Prop} {cs' : List Value} {o' : Nat} {k' : Option Nat} (hcs : cs = cs') (ho : o = o') (hk : k = k') : ldBox cs o k K = ldBox cs' o' k' K := by subst hcs; subst ho; subst hk; rfl
@[congr] theorem LdOb_cg {w0 : Base} {H : List HO} {a : Addr} {k : Option Nat} {K : SV → Prop} {a' : Addr} (ha : a = a') : LdOb w0 H a k K = LdOb w0 H a' k K := by subst ha; rfl
@[congr] theorem binS_cg {P : Program} {o : BinOp} {T : TypeId} {x : Value} {y : Value} {K : SV → Prop} {x' : Value} {y' : Value} (hx : x = x') (hy : y = y') : binS P o T x y K = binS P o T x' y' K := by subst hx; subst hy; rfl
@[congr] theorem binI_cg {o : BinOp} {k : IntKind} {x : Int} {y : Int} {K : SV → Prop} {x' : Int} {y' : Int} (hx : x = x') (hy : y = y') : binI o k x y K = binI o k x' y' K := by subst hx; subst hy; rfl
@[congr] theorem unS_cg {o : UnOp} {s : SV} {K : SV → Prop} {s' : SV} (hs : s = s') : unS o s K = unS o s' K := by subst hs; rfl
@[congr] theorem faS_cg {k : Option Nat} {s : SV} {K : SV → Prop} {k' : Option Nat} {s' : SV} (hk : k = k') (hs : s = s') : faS k s K = faS k' s' K := by subst hk; subst hs; rfl
@[congr] theorem fldS_cg {k : Option (Nat × Option Nat)} {x : Value} {K : SV → Prop} {k' : Option (Nat × Option Nat)} {x' : Value} (hk : k = k') (hx : x = x') : fldS k x K = fldS k' x' K := by subst hk; subst hx; rfl
@[congr] theorem partS_cg {cs : List Value} {o : Nat} {k : Option Nat} {K : SV → Prop} {cs' : List Value} {o' : Nat} {k' : Option Nat} (hcs : cs = cs') (ho : o = o') (hk : k = k') : partS cs o k K = partS cs' o' k' K := by subst hcs; subst ho; subst hk; rfl
@[congr] theorem ixS_cg {k : Option (TypeId × Nat)} {ar : Option (Nat × Nat × Option Nat)} {x : SV} {i : Value} {K : SV → Prop} {k' : Option (TypeId × Nat)} {ar' : Option (Nat × Nat × Option Nat)} {x' : SV} {i' : Value} (hk : k = k') (har : ar = ar') (hx : x = x') (hi : i = i') : ixS k ar x i K = ixS k' ar' x' i' K := by subst hk; subst har; subst hx; subst hi; rfl
@[congr] theorem idxS_cg {ar : Option (Nat × Nat × Option Nat)} {x : Value} {i : Value} {K : SV → Prop} {ar' : Option (Nat × Nat × Option Nat)} {x' : Value} {i' : Value} (har : ar = ar') (hx : x = x') (hi : i = i') : idxS ar x i K = idxS ar' x' i' K := by subst har; subst hx; subst hi; rfl
@[congr] theorem extS_cg {x : Value} {i : Nat} {K : SV → Prop} {x' : Value} (hx : x = x') : extS x i K = extS x' i K := by subst hx; rfl
@[congr] theorem bldS_cg {a : Option (List (Nat × Nat))} {b : Option (List Value)} {ps : List (Nat × Value)} {K : SV → Prop} {a' : Option (List (Nat × Nat))} {b' : Option (List Value)} {ps' : List (Nat × Value)} (ha : a = a') (hb : b = b') (hps : ps = ps') : bldS a b ps K = bldS a' b' ps' K := by subst ha; subst hb; subst hps; rfl
@[congr] theorem bld1_cg {a : Option (List Value)} {K : SV → Prop} {a' : Option (List Value)} (ha : a = a') : bld1 a K = bld1 a' K := by subst ha; rfl
@[congr] theorem bs1_cg {a : Option (List Value)} {K : List Value → Prop} {a' : Option (List Value)} (ha : a = a') : bs1 a K = bs1 a' K := by subst ha; rfl
@[congr] theorem slS_cg {k : Option (TypeId × Nat)} {x : Value} {a : Option Value} {b : Option Value} {c : Option Value} {K : SV → Prop} {k' : Option (TypeId × Nat)} {x' : Value} {a' : Option Value} {b' : Option Value} {c' : Option Value} (hk : k = k') (hx : x = x') (ha : a = a') (hb : b = b') (hc : c = c') : slS k x a b c K = slS k' x' a' b' c' K := by subst hk; subst hx; subst ha; subst hb; subst hc; rfl
@[congr] theorem bndS_cg {x : Option Value} {d : Nat} {y : Nat} {K : Nat → Prop} {x' : Option Value} {d' : Nat} {y' : Nat} (hx : x = x') (hd : d = d') (hy : y = y') : bndS x d y K = bndS x' d' y' K := by subst hx; subst hd; subst hy; rfl
@[congr] theorem lenS_cg {x : Value} {K : SV → Prop} {x' : Value} (hx : x = x') : lenS x K = lenS x' K := by subst hx; rfl
@[congr] theorem capS_cg {x : Value} {K : SV → Prop} {x' : Value} (hx : x = x') : capS x K = capS x' K := by subst hx; rfl
@[congr] theorem mmS_cg {t : Bool} {x : Value} {y : Value} {K : SV → Prop} {x' : Value} {y' : Value} (hx : x = x') (hy : y = y') : mmS t x y K = mmS t x' y' K := by subst hx; subst hy; rfl
@[congr] theorem newBox_cg {E : Env} {d : Option Nat} {T : TypeId} {cs : List Value} {L : List Box} {H : List HO} {k : SV → List Box → List HO → Prop} {cs' : List Value} (hcs : cs = cs') : newBox E d T cs L H k = newBox E d T cs' L H k := by subst hcs; rfl
@[congr] theorem allocS_cg {E : Env} {d : Option Nat} {T : TypeId} {z : Option (List Value)} {L : List Box} {H : List HO} {k : SV → List Box → List HO → Prop} {z' : Option (List Value)} (hz : z = z') : allocS E d T z L H k = allocS E d T z' L H k := by subst hz; rfl
@[congr] theorem stS_cg {L : List Box} {H : List HO} {n : Option Nat} {a : SV} {x : Value} {K : List Box → List HO → Prop} {n' : Option Nat} {a' : SV} {x' : Value} (hn : n = n') (ha : a = a') (hx : x = x') : stS L H n a x K = stS L H n' a' x' K := by subst hn; subst ha; subst hx; rfl
@[congr] theorem mkS_cg {k : Option (TypeId × Nat × List Value × Nat)} {n : Value} {c : Value} {L : List Box} {H : List HO} {K : SV → List Box → List HO → Prop} {k' : Option (TypeId × Nat × List Value × Nat)} {n' : Value} {c' : Value} (hk : k = k') (hn : n = n') (hc : c = c') : mkS k n c L H K = mkS k' n' c' L H K := by subst hk; subst hn; subst hc; rfl
@[congr] theorem bsS_cg {k : Option (TypeId × Nat × List Value × Nat)} {n : Nat} {ps : List (Nat × Value)} {L : List Box} {H : List HO} {K : SV → List Box → List HO → Prop} {k' : Option (TypeId × Nat × List Value × Nat)} {ps' : List (Nat × Value)} (hk : k = k') (hps : ps = ps') : bsS k n ps L H K = bsS k' n ps' L H K := by subst hk; subst hps; rfl
@[congr] theorem invS_cg {E : Env} {dr : Bool} {f : SV} {args : List Value} {L : List Box} {H : List HO} {k : SV → List Box → List HO → Prop} {f' : SV} {args' : List Value} (hf : f = f') (hargs : args = args') : invS E dr f args L H k = invS E dr f' args' L H k := by subst hf; subst hargs; rfl
@[congr] theorem call1_cg {v : Option Value} {E : Env} {dr : Bool} {g : Nat} {args : List Value} {L : List Box} {H : List HO} {k : SV → List Box → List HO → Prop} {v' : Option Value} {args' : List Value} (hv : v = v') (hargs : args = args') : call1 v E dr g args L H k = call1 v' E dr g args' L H k := by subst hv; subst hargs; rfl
@[congr] theorem CallOb_cg {P : Program} {w0 : Base} {dr : Bool} {tg : Tg} {args : List Value} {H : List HO} {k : Value → List HO → Prop} {args' : List Value} (hargs : args = args') : CallOb P w0 dr tg args H k = CallOb P w0 dr tg args' H k := by subst hargs; rfl
@[congr] theorem AppOb_cg {w0 : Base} {k : Option (TypeId × Nat × List Value × Nat)} {s : Value} {x : Value} {H : List HO} {K : Value → List HO → Prop} {k' : Option (TypeId × Nat × List Value × Nat)} {s' : Value} {x' : Value} (hk : k = k') (hs : s = s') (hx : x = x') : AppOb w0 k s x H K = AppOb w0 k' s' x' H K := by subst hk; subst hs; subst hx; rfl
@[congr] theorem WrOb_cg {H : List HO} {a : Addr} {vs : List Value} {K : List HO → Prop} {a' : Addr} {vs' : List Value} (ha : a = a') (hvs : vs = vs') : WrOb H a vs K = WrOb H a' vs' K := by subst ha; subst hvs; rfl
@[congr] theorem LoopOb_cg {w0 : Base} {B : XSt → St} {Q : XSt} {fr : List SV} {L : List Box} {H : List HO} {fr' : List SV} {L' : List Box} (hfr : fr = fr') (hL : L = L') : LoopOb w0 B Q fr L H = LoopOb w0 B Q fr' L' H := by subst hfr; subst hL; rfl
@[congr] theorem RangeOb_cg {P : Program} {w0 : Base} {Ba : XSt → St} {Bb : XSt → St} {g : SV} {ps : List Tmp} {Q : XSt} {fr : List SV} {L : List Box} {H : List HO} {g' : SV} {fr' : List SV} {L' : List Box} (hg : g = g') (hfr : fr = fr') (hL : L = L') : RangeOb P w0 Ba Bb g ps Q fr L H = RangeOb P w0 Ba Bb g' ps Q fr' L' H := by subst hg; subst hfr; subst hL; rfl
@[congr] theorem cnd1_cg {s : SV} {c : Operand} {fr : List SV} {yes : List SV → Prop} {no : List SV → Prop} {s' : SV} (hs : s = s') : cnd1 s c fr yes no = cnd1 s' c fr yes no := by subst hs; rfl
@[congr] theorem gdS_cg {fr : List SV} {d : Option Nat} {want : Bool} {yes : List SV → Prop} {no : List SV → Prop} {d' : Option Nat} (hd : d = d') : gdS fr d want yes no = gdS fr d' want yes no := by subst hd; rfl
@[congr] theorem gd1_cg {s : SV} {fr : List SV} {d : Nat} {want : Bool} {yes : List SV → Prop} {no : List SV → Prop} {s' : SV} {d' : Nat} (hs : s = s') (hd : d = d') : gd1 s fr d want yes no = gd1 s' fr d' want yes no := by subst hs; subst hd; rfl
@[congr] theorem resK_cg {E : Env} {rs : List ResultVar} {fr : List SV} {L : List Box} {H : List HO} {K : List Value → Prop} {rs' : List ResultVar} (hrs : rs = rs') : resK E rs fr L H K = resK E rs' fr L H K := by subst hrs; rfl
@[congr] theorem seqQ_cg {K : St} {Q : XSt} {x : X} {fr : List SV} {L : List Box} {H : List HO} {fr' : List SV} {L' : List Box} (hfr : fr = fr') (hL : L = L') : seqQ K Q x fr L H = seqQ K Q x fr' L' H := by subst hfr; subst hL; rfl
@[congr] theorem blkQ_cg {i : Nat} {Q : XSt} {x : X} {fr : List SV} {L : List Box} {H : List HO} {fr' : List SV} {L' : List Box} (hfr : fr = fr') (hL : L = L') : blkQ i Q x fr L H = blkQ i Q x fr' L' H := by subst hfr; subst hL; rfl
@[congr] theorem retQ_cg {E : Env} {rs : List ResultVar} {Post : Value → List HO → Prop} {x : X} {fr : List SV} {L : List Box} {H : List HO} {fr' : List SV} {L' : List Box} (hfr : fr = fr') (hL : L = L') : retQ E rs Post x fr L H = retQ E rs Post x fr' L' H := by subst hfr; subst hL; rfl
theorem r0 (E : Env) (Q : XSt) (fr : List SV) (L : List Box) (H : List HO) : W E .skip Q fr L H = Q .nxt fr L H := rfl
theorem r1 (E : Env) (Q : XSt) (fr : List SV) (L : List Box) (H : List HO) : W E .ret Q fr L H = Q .ret fr L H := rfl
theorem r2 (E : Env) (Q : XSt) (fr : List SV) (L : List Box) (H : List HO) (i : Nat) : W E (.exit i) Q fr L H = Q (.ext i) fr L H := rfl
theorem r3 (E : Env) (Q : XSt) (fr : List SV) (L : List Box) (H : List HO) (a b : Code) : W E (.seq a b) Q fr L H = seq1 (cutL E.cuts a b) E a b Q fr L H := by show (bif _ then _ else _) = _; unfold seq1 hold; cases cutL E.cuts a b <;> rfl
theorem r4 (E : Env) (Q : XSt) (fr : List SV) (L : List Box) (H : List HO) (a b : Code) : seq1 false E a b Q fr L H = W E a (seqQ (W E b Q) Q) fr L H := rfl
theorem r5 (E : Env) (Q : XSt) (fr : List SV) (L : List Box) (H : List HO) (a b : Code) : seq1 true E a b Q fr L H = ev3 (fun fr L H => CutOb E.w0 (W E a) (W E b Q) Q fr L H) ⟨0⟩ fr L H := rfl
theorem r6 (a b : Code) : cutL [] a b = false := rfl
theorem r7 (i : Nat) (l : List Nat) (a b : Code) : cutL (i :: l) a b = orB (inCut (headR b) (i :: l)) (inCut (tailR a) (i :: l)) := rfl
theorem r8 (b : Bool) : orB true b = true := rfl
theorem r9 (b : Bool) : orB false b = b := rfl
theorem r10 (i : Nat) (o : Array Oper) (d : Bool) : headR (.region i o d) = 2 * i := rfl
theorem r11 (a b : Code) : headR (.seq a b) = headR a := rfl
theorem r12 (i : Nat) (a : Code) : headR (.block i a) = headR a := rfl
theorem r13 (a : Code) : headR (.loop a) = headR a := rfl
theorem r14 (c : Operand) (a b : Code) : headR (.cond c a b) = 1000000 := rfl
theorem r15 (i : Nat) : headR (.exit i) = 1000000 := rfl
theorem r16  : headR .ret = 1000000 := rfl
theorem r17  : headR .skip = 1000000 := rfl
theorem r18 (g : Operand) (ps : Array Tmp) (a b : Code) : headR (.rangeFunc g ps a b) = 1000000 := rfl
theorem r19 (i : Nat) (o : Array Oper) (d : Bool) : tailR (.region i o d) = 2 * i + 1 := rfl
theorem r20 (a b : Code) : tailR (.seq a b) = tailR b := rfl
theorem r21 (i : Nat) (a : Code) : tailR (.block i a) = 1000000 := rfl
theorem r22 (a : Code) : tailR (.loop a) = 1000000 := rfl
theorem r23 (c : Operand) (a b : Code) : tailR (.cond c a b) = 1000000 := rfl
theorem r24 (i : Nat) : tailR (.exit i) = 1000000 := rfl
theorem r25  : tailR .ret = 1000000 := rfl
theorem r26  : tailR .skip = 1000000 := rfl
theorem r27 (g : Operand) (ps : Array Tmp) (a b : Code) : tailR (.rangeFunc g ps a b) = 1000000 := rfl
theorem r28 (i : Nat) : inCut i [] = false := rfl
theorem r29 (i j : Nat) (l : List Nat) : inCut i (j :: l) = bif i == j then true else inCut i l := rfl
theorem r30 {σ : Type} (w0 : Base) (wr : List (Nat × Nat)) (enc : σ → List (Nat × Value)) (Lf : σ → List Box) (Inv : σ → List HO → Prop) (fr : List SV) (n : Nat) (Q : XSt) (fr' : List SV) (L' : List Box) (H' : List HO) : cutQ w0 wr enc Lf Inv fr n Q .nxt fr' L' H' = ∃ s' H2, fits 0 wr (enc s') fr fr' ∧ L'.take n = Lf s' ∧ HImp w0 H' H2 ∧ Inv s' H2 := rfl
theorem r31 {σ : Type} (w0 : Base) (wr : List (Nat × Nat)) (enc : σ → List (Nat × Value)) (Lf : σ → List Box) (Inv : σ → List HO → Prop) (fr : List SV) (n : Nat) (Q : XSt) (fr' : List SV) (L' : List Box) (H' : List HO) : cutQ w0 wr enc Lf Inv fr n Q .ret fr' L' H' = Q .ret fr' L' H' := rfl
theorem r32 {σ : Type} (w0 : Base) (wr : List (Nat × Nat)) (enc : σ → List (Nat × Value)) (Lf : σ → List Box) (Inv : σ → List HO → Prop) (fr : List SV) (n : Nat) (Q : XSt) (fr' : List SV) (L' : List Box) (H' : List HO) (i : Nat) : cutQ w0 wr enc Lf Inv fr n Q (.ext i) fr' L' H' = Q (.ext i) fr' L' H' := rfl
theorem r33 (E : Env) (Q : XSt) (fr : List SV) (L : List Box) (H : List HO) (i : Nat) (a : Code) : W E (.block i a) Q fr L H = W E a (blkQ i Q) fr L H := rfl
theorem r34 (E : Env) (Q : XSt) (fr : List SV) (L : List Box) (H : List HO) (i : Nat) (l : List Oper) : W E (.region i l.toArray false) Q fr L H = execs E false l l fr L H (Q .nxt) := rfl
theorem r35 (E : Env) (Q : XSt) (fr : List SV) (L : List Box) (H : List HO) (i : Nat) (l : List Oper) : W E (.region i l.toArray true) Q fr L H = planS E (lkO i E.ord) l fr L H (Q .nxt) := rfl
theorem r36 (E : Env) (Q : XSt) (fr : List SV) (L : List Box) (H : List HO) (c : Operand) (a b : Code) : W E (.cond c a b) Q fr L H = cnd1 (op1 fr c) c fr (fun fr => W E a Q fr L H) (fun fr => W E b Q fr L H) := rfl
theorem r37 (E : Env) (Q : XSt) (fr : List SV) (L : List Box) (H : List HO) (a : Code) : W E (.loop a) Q fr L H = ev3 (fun fr L H => LoopOb E.w0 (W E a) Q fr L H) ⟨0⟩ fr L H := rfl
theorem r38 (E : Env) (Q : XSt) (fr : List SV) (L : List Box) (H : List HO) (g : Operand) (ps : List Tmp) (a b : Code) : W E (.rangeFunc g ps.toArray a b) Q fr L H = rng1 (op1 fr g) E.P E.w0 (W E a) (W E b) ps Q fr L H := rfl
theorem r39 (v : Value) (P : Program) (w0 : Base) (Ba Bb : XSt → St) (ps : List Tmp) (Q : XSt) (fr : List SV) (L : List Box) (H : List HO) : rng1 (.v v) P w0 Ba Bb ps Q fr L H = ev3 (fun fr L H => RangeOb P w0 Ba Bb (.v v) ps Q fr L H) ⟨0⟩ fr L H := rfl
theorem r40 (K : St) (Q : XSt) : seqQ K Q .nxt = K := rfl
theorem r41 (K : St) (Q : XSt) : seqQ K Q .ret = Q .ret := rfl
theorem r42 (K : St) (Q : XSt) (i : Nat) : seqQ K Q (.ext i) = Q (.ext i) := rfl
theorem r43 (i : Nat) (Q : XSt) : blkQ i Q .nxt = Q .nxt := rfl
theorem r44 (i : Nat) (Q : XSt) : blkQ i Q .ret = Q .ret := rfl
theorem r45 (i j : Nat) (Q : XSt) : blkQ i Q (.ext j) = bif j == i then Q .nxt else Q (.ext j) := rfl
theorem r46 (E : Env) (rs : List ResultVar) (Post : Value → List HO → Prop) (fr : List SV) (L : List Box) (H : List HO) : retQ E rs Post .nxt fr L H = resK E rs fr L H fun vs => Post (tupV vs) H := rfl
theorem r47 (E : Env) (rs : List ResultVar) (Post : Value → List HO → Prop) (fr : List SV) (L : List Box) (H : List HO) : retQ E rs Post .ret fr L H = resK E rs fr L H fun vs => Post (tupV vs) H := rfl
theorem r48 (K : St) (fr : List SV) (L : List Box) (H : List HO) : assignQ K .nxt fr L H = K fr L H := rfl
theorem r49 {σ : Type} (w0 : Base) (wr : List (Nat × Nat)) (enc : σ → List (Nat × Value)) (Lf : σ → List Box) (Inv : σ → List HO → Prop) (μ : σ → Nat) (fr : List SV) (n m : Nat) (Q : XSt) (fr' : List SV) (L' : List Box) (H' : List HO) : loopQ w0 wr enc Lf Inv μ fr n m Q .nxt fr' L' H' = ∃ s' H2, fits 0 wr (enc s') fr fr' ∧ L'.take n = Lf s' ∧ HImp w0 H' H2 ∧ Inv s' H2 ∧ μ s' < m := rfl
theorem r50 {σ : Type} (w0 : Base) (wr : List (Nat × Nat)) (enc : σ → List (Nat × Value)) (Lf : σ → List Box) (Inv : σ → List HO → Prop) (μ : σ → Nat) (fr : List SV) (n m : Nat) (Q : XSt) (fr' : List SV) (L' : List Box) (H' : List HO) : loopQ w0 wr enc Lf Inv μ fr n m Q .ret fr' L' H' = Q .ret fr' L' H' := rfl
theorem r51 {σ : Type} (w0 : Base) (wr : List (Nat × Nat)) (enc : σ → List (Nat × Value)) (Lf : σ → List Box) (Inv : σ → List HO → Prop) (μ : σ → Nat) (fr : List SV) (n m : Nat) (Q : XSt) (fr' : List SV) (L' : List Box) (H' : List HO) (i : Nat) : loopQ w0 wr enc Lf Inv μ fr n m Q (.ext i) fr' L' H' = Q (.ext i) fr' L' H' := rfl
theorem r52 (w0 : Base) (n : Nat) (I : List Box → List HO → Prop) (Q : XSt) (fr fr2 : List SV) (L2 : List Box) (H2 : List HO) : rangeQ w0 n I Q fr .nxt fr2 L2 H2 = ∃ H3, HImp w0 H2 H3 ∧ I (L2.take n) H3 := rfl
theorem r53 (w0 : Base) (n : Nat) (I : List Box → List HO → Prop) (Q : XSt) (fr fr2 : List SV) (L2 : List Box) (H2 : List HO) : rangeQ w0 n I Q fr .ret fr2 L2 H2 = ∃ H3, HImp w0 H2 H3 ∧ Q .ret fr (L2.take n) H3 := rfl
theorem r54 (w0 : Base) (n : Nat) (I : List Box → List HO → Prop) (Q : XSt) (fr fr2 : List SV) (L2 : List Box) (H2 : List HO) (i : Nat) : rangeQ w0 n I Q fr (.ext i) fr2 L2 H2 = ∃ H3, HImp w0 H2 H3 ∧ Q (.ext i) fr (L2.take n) H3 := rfl
theorem r55 (fr : List SV) (t : Nat) (ts : List Nat) (v : Value) (vs : List Value) : setPs fr (t :: ts) (v :: vs) = setPs (fset fr t (.v v)) ts vs := rfl
theorem r56 (fr : List SV) : setPs fr [] [] = fr := rfl
theorem r57 (i : Nat) (wr : List (Nat × Nat)) (enc : List (Nat × Value)) (g : Nat → Value) : hv i wr enc g [] = [] := rfl
theorem r58 (i : Nat) (wr : List (Nat × Nat)) (enc : List (Nat × Value)) (g : Nat → Value) (x : SV) (r : List SV) : hv i wr enc g (x :: r) = hv1 (lkV i enc) (inI i wr) (g i) x :: hv (i + 1) wr enc g r := rfl
theorem r59 (v : Value) (w : Bool) (g : Value) (x : SV) : hv1 (some v) w g x = .v v := rfl
theorem r60 (g : Value) (x : SV) : hv1 none true g x = .v g := rfl
theorem r61 (g : Value) (x : SV) : hv1 none false g x = x := rfl
theorem r62 (i : Nat) : lkV i [] = none := rfl
theorem r63 (i j : Nat) (v : Value) (r : List (Nat × Value)) : lkV i ((j, v) :: r) = bif i == j then some v else lkV i r := rfl
theorem r64 (i : Nat) : lkO i [] = none := rfl
theorem r65 (i j : Nat) (v : Plan) (r : List (Nat × Plan)) : lkO i ((j, v) :: r) = bif i == j then some v else lkO i r := rfl
theorem r66 (E : Env) (all : List Oper) (fr : List SV) (L : List Box) (H : List HO) (k : List SV → List Box → List HO → Prop) : planS E none all fr L H k = execs E true all all fr L H k := rfl
theorem r67 (E : Env) (all : List Oper) (fr : List SV) (L : List Box) (H : List HO) (k : List SV → List Box → List HO → Prop) (p : Plan) : planS E (some p) all fr L H k = execsP E all p fr L H k := rfl
theorem r68 (E : Env) (all : List Oper) (fr : List SV) (L : List Box) (H : List HO) (k : List SV → List Box → List HO → Prop) : execsP E all .fin fr L H k = k fr L H := rfl
theorem r69 (E : Env) (all : List Oper) (fr : List SV) (L : List Box) (H : List HO) (k : List SV → List Box → List HO → Prop) : execsP E all .no fr L H k = True := rfl
theorem r70 (E : Env) (all : List Oper) (fr : List SV) (L : List Box) (H : List HO) (k : List SV → List Box → List HO → Prop) (i : Nat) (p : Plan) : execsP E all (.one i p) fr L H k = one1 E all (nthO all i) fr L H fun fr L H => execsP E all p fr L H k := by rw [nthO_eq]; rfl
theorem r71 (E : Env) (all : List Oper) (fr : List SV) (L : List Box) (H : List HO) (k : List SV → List Box → List HO → Prop) (i : Nat) (p q : Plan) : execsP E all (.alt i p q) fr L H k = ((one1 E all (nthO all i) fr L H fun fr L H => execsP E all p fr L H k) ∧ execsP E all q fr L H k) := by rw [nthO_eq]; rfl
theorem r72 (E : Env) (all : List Oper) (fr : List SV) (L : List Box) (H : List HO) (k : List SV → List Box → List HO → Prop) (p : Plan) : execsP E all (ones [] p) fr L H k = execsP E all p fr L H k := rfl
theorem r73 (E : Env) (all : List Oper) (fr : List SV) (L : List Box) (H : List HO) (k : List SV → List Box → List HO → Prop) (i : Nat) (l : List Nat) (p : Plan) : execsP E all (ones (i :: l) p) fr L H k = one1 E all (nthO all i) fr L H fun fr L H => execsP E all (ones l p) fr L H k := by rw [nthO_eq]; rfl
theorem r74 (o : Oper) (l : List Oper) : nthO (o :: l) 0 = some o := rfl
theorem r75 (o : Oper) (l : List Oper) (n : Nat) : nthO (o :: l) (n + 1) = nthO l n := rfl
theorem r76 (E : Env) (all : List Oper) (fr : List SV) (L : List Box) (H : List HO) (k : List SV → List Box → List HO → Prop) (o : Oper) : one1 E all (some o) fr L H k = execs E true all [o] fr L H k := rfl
theorem r77 (i : Nat) : inI i [] = false := rfl
theorem r78 (i a b : Nat) (r : List (Nat × Nat)) : inI i ((a, b) :: r) = ((decide (a ≤ i) && decide (i ≤ b)) || inI i r) := rfl
theorem r79 (i : Nat) (wr : List (Nat × Nat)) (enc : List (Nat × Value)) : fits i wr enc [] [] = True := rfl
theorem r80 (i : Nat) (wr : List (Nat × Nat)) (enc : List (Nat × Value)) (x y : SV) (r r' : List SV) : fits i wr enc (x :: r) (y :: r') = (fit1 (lkV i enc) (inI i wr) x y ∧ fits (i + 1) wr enc r r') := rfl
theorem r81 (v : Value) (w : Bool) (x y : SV) : fit1 (some v) w x y = isV y v := rfl
theorem r82 (x y : SV) : fit1 none true x y = True := rfl
theorem r83 (x y : SV) : fit1 none false x y = (x = y) := rfl
theorem r84 (x v : Value) : isV (.v x) v = (x = v) := rfl
theorem r85 (t : Bool) (v : Value) : isV (.b t) v = (Value.bool t = v) := rfl
theorem r86 (c : Operand) (fr : List SV) (yes no : List SV → Prop) : cnd1 (.b true) c fr yes no = yes fr := rfl
theorem r87 (c : Operand) (fr : List SV) (yes no : List SV → Prop) : cnd1 (.b false) c fr yes no = no fr := rfl
theorem r88 (t : Bool) (d : Nat) (fr : List SV) (yes no : List SV → Prop) : cnd1 (.v (.bool t)) (.tmp d) fr yes no = ((t = true → yes (fset fr d (.b true))) ∧ (t = false → no (fset fr d (.b false)))) := rfl
theorem r89 (E : Env) (dr : Bool) (all : List Oper) (fr : List SV) (L : List Box) (H : List HO) (k : St) : execs E dr all [] fr L H k = k fr L H := rfl
theorem r90 (E : Env) (dr : Bool) (all r : List Oper) (fr : List SV) (L : List Box) (H : List HO) (k : St) (d : Option Tmp) (op : Op) (t : TypeId) (p : String) (af : Array Edge) : execs E dr all ({ dst := d, op := op, type := t, pos := p, after := af, guard := none } :: r) fr L H k = ev2 (fun fr L H => exec1 E dr fr L H d op fun s L H => execs E dr all r (put fr d s) L H k) ⟨0⟩ fr L H := rfl
theorem r91 (E : Env) (dr : Bool) (all r : List Oper) (fr : List SV) (L : List Box) (H : List HO) (k : St) (d : Option Tmp) (op : Op) (t : TypeId) (p : String) (af : Array Edge) (j : Nat) (want : Bool) : execs E dr all ({ dst := d, op := op, type := t, pos := p, after := af, guard := some (j, want) } :: r) fr L H k = ev2 (fun fr L H => gdS fr (dstOf all j) want (fun fr => exec1 E dr fr L H d op fun s L H => execs E dr all r (put fr d s) L H k) (fun fr => execs E dr all r (put fr d (.v undef)) L H k)) ⟨0⟩ fr L H := rfl
theorem r92 (o : Oper) (l : List Oper) : dstOf (o :: l) 0 = o.dst := rfl
theorem r93 (o : Oper) (l : List Oper) (n : Nat) : dstOf (o :: l) (n + 1) = dstOf l n := by simp [dstOf]
theorem r94 (fr : List SV) (d : Nat) (want : Bool) (yes no : List SV → Prop) : gdS fr (some d) want yes no = gd1 (fget fr d) fr d want yes no := rfl
theorem r95 (fr : List SV) (d : Nat) (yes no : List SV → Prop) : gd1 (.b true) fr d true yes no = yes fr := rfl
theorem r96 (fr : List SV) (d : Nat) (yes no : List SV → Prop) : gd1 (.b true) fr d false yes no = no fr := rfl
theorem r97 (fr : List SV) (d : Nat) (yes no : List SV → Prop) : gd1 (.b false) fr d true yes no = no fr := rfl
theorem r98 (fr : List SV) (d : Nat) (yes no : List SV → Prop) : gd1 (.b false) fr d false yes no = yes fr := rfl
theorem r99 (fr : List SV) (d : Nat) (yes no : List SV → Prop) (t : Bool) : gd1 (.v (.bool t)) fr d true yes no = ((t = true → yes (fset fr d (.b true))) ∧ (t = false → no (fset fr d (.b false)))) := rfl
theorem r100 (fr : List SV) (d : Nat) (yes no : List SV → Prop) : gd1 (.v undef) fr d true yes no = no fr := rfl
theorem r101 (fr : List SV) (d : Nat) (yes no : List SV → Prop) (t : Bool) : gd1 (.v (.bool t)) fr d false yes no = ((t = false → yes (fset fr d (.b false))) ∧ (t = true → no (fset fr d (.b true)))) := rfl
theorem r102 (fr : List SV) (d : Nat) (yes no : List SV → Prop) : gd1 (.v undef) fr d false yes no = no fr := rfl
theorem r103 (fr : List SV) (t : Nat) : op1 fr (.tmp t) = fget fr t := rfl
theorem r104 (fr : List SV) (t : Bool) : op1 fr (.const (.bool t)) = .b t := rfl
theorem r105 (fr : List SV) (k : IntKind) (n : Int) : op1 fr (.const (.int k n)) = .v (.int k n) := rfl
theorem r106 (fr : List SV) (a : Option Addr) (n m : Nat) : op1 fr (.const (.slice a n m)) = .v (.slice a n m) := rfl
theorem r107 (fr : List SV) (s : ByteArray) : op1 fr (.const (.string s)) = .v (.string s) := rfl
theorem r108 (fr : List SV) (a : Option Addr) : op1 fr (.const (.pointer a)) = .v (.pointer a) := rfl
theorem r109 (fr : List SV) (a : Array Value) : op1 fr (.const (.agg a)) = .v (.agg a) := rfl
theorem r110 (fr : List SV) (a : Array Value) : op1 fr (.const (.tuple a)) = .v (.tuple a) := rfl
theorem r111 (fr : List SV) (a : Option Nat) : op1 fr (.const (.map a)) = .v (.map a) := rfl
theorem r112 (fr : List SV) (f : Go.Fn) (a b : Array Value) : op1 fr (.const (.func f a b)) = .v (.func f a b) := rfl
theorem r113 (fr : List SV) : op1 fr (.const .nilFunc) = .v .nilFunc := rfl
theorem r114 (fr : List SV) (g : Nat) : op1 fr (.global g) = .v (.pointer (some ⟨g, 0, none⟩)) := rfl
theorem r115 (fr : List SV) (f : Nat) : op1 fr (.func f) = .v (.func (.func f) #[] #[]) := rfl
theorem r116 (x : SV) (l : List SV) : fget (x :: l) 0 = x := rfl
theorem r117 (x : SV) (l : List SV) (n : Nat) : fget (x :: l) (n + 1) = fget l n := rfl
theorem r118 (x y : SV) (l : List SV) : fset (x :: l) 0 y = y :: l := rfl
theorem r119 (x y : SV) (l : List SV) (n : Nat) : fset (x :: l) (n + 1) y = x :: fset l n y := rfl
theorem r120 (fr : List SV) (d : Nat) (s : SV) : put fr (some d) s = fset fr d s := rfl
theorem r121 (fr : List SV) (s : SV) : put fr none s = fr := rfl
theorem r122 (x : Value) (K : Value → Prop) : withV (.v x) K = K x := rfl
theorem r123 (t : Bool) (K : Value → Prop) : withV (.b t) K = K (.bool t) := rfl
theorem r124 (K : List Value → Prop) : withVs [] K = K [] := rfl
theorem r125 (s : SV) (l : List SV) (K : List Value → Prop) : withVs (s :: l) K = withV s fun x => withVs l fun xs => K (x :: xs) := rfl
theorem r126 (K : Option Value → Prop) : optV none K = K none := rfl
theorem r127 (s : SV) (K : Option Value → Prop) : optV (some s) K = withV s fun x => K (some x) := rfl
theorem r128 (x : Box) (l : List Box) : boxAt (x :: l) 0 = x.2 := rfl
theorem r129 (x : Box) (l : List Box) (n : Nat) : boxAt (x :: l) (n + 1) = boxAt l n := rfl
theorem r130 (x : Box) (l : List Box) (y : List Value) : lset (x :: l) 0 y = (x.1, y) :: l := rfl
theorem r131 (x : Box) (l : List Box) (y : List Value) (n : Nat) : lset (x :: l) (n + 1) y = x :: lset l n y := rfl
theorem r132 (E : Env) (dr : Bool) (fr : List SV) (L : List Box) (H : List HO) (d : Option Nat) (k : SV → List Box → List HO → Prop) (x : Operand) : exec1 E dr fr L H d (.move x) k = k (op1 fr x) L H := rfl
theorem r133 (E : Env) (dr : Bool) (fr : List SV) (L : List Box) (H : List HO) (d : Option Nat) (k : SV → List Box → List HO → Prop) (x : Operand) : exec1 E dr fr L H d (.assign x) k = k (op1 fr x) L H := rfl
theorem r134 (E : Env) (dr : Bool) (fr : List SV) (L : List Box) (H : List HO) (d : Option Nat) (k : SV → List Box → List HO → Prop) (c a b : Operand) : exec1 E dr fr L H d (.pick c a b) k = pickS (op1 fr c) (op1 fr a) (op1 fr b) fun s => k s L H := rfl
theorem r135 (E : Env) (dr : Bool) (fr : List SV) (L : List Box) (H : List HO) (d : Option Nat) (k : SV → List Box → List HO → Prop) (T : TypeId) (x : Operand) : exec1 E dr fr L H d (.load T x) k = ldS E.w0 L H (ldT E.P T) (op1 fr x) fun s => k s L H := rfl
theorem r136 (E : Env) (dr : Bool) (fr : List SV) (L : List Box) (H : List HO) (d : Option Nat) (k : SV → List Box → List HO → Prop) (x : Operand) : exec1 E dr fr L H d (.nilCheck x) k = ncS (op1 fr x) fun s => k s L H := rfl
theorem r137 (E : Env) (dr : Bool) (fr : List SV) (L : List Box) (H : List HO) (d : Option Nat) (k : SV → List Box → List HO → Prop) (o : BinOp) (T U : TypeId) (x y : Operand) : exec1 E dr fr L H d (.binOp o T x y U) k = withV (op1 fr x) fun x => withV (op1 fr y) fun y => binS E.P o T x y fun s => k s L H := rfl
theorem r138 (E : Env) (dr : Bool) (fr : List SV) (L : List Box) (H : List HO) (d : Option Nat) (k : SV → List Box → List HO → Prop) (o : UnOp) (T : TypeId) (x : Operand) : exec1 E dr fr L H d (.unOp o T x) k = unS o (op1 fr x) fun s => k s L H := rfl
theorem r139 (E : Env) (dr : Bool) (fr : List SV) (L : List Box) (H : List HO) (d : Option Nat) (k : SV → List Box → List HO → Prop) (S T : TypeId) (x : Operand) : exec1 E dr fr L H d (.convert S T x) k = withV (op1 fr x) fun x => cv1 (intT E.P S) (intT E.P T) x fun s => k s L H := cv_rule E dr fr L H d k S T x
theorem r140 (E : Env) (dr : Bool) (fr : List SV) (L : List Box) (H : List HO) (d : Option Nat) (k : SV → List Box → List HO → Prop) (f : Go.Fn) (xs ys : List Operand) : exec1 E dr fr L H d (.makeFunc f xs.toArray ys.toArray) k = withVs (xs.map (op1 fr)) fun xs => withVs (ys.map (op1 fr)) fun ys => k (.v (.func f xs.toArray ys.toArray)) L H := rfl
theorem r141 (E : Env) (dr : Bool) (fr : List SV) (L : List Box) (H : List HO) (d : Option Nat) (k : SV → List Box → List HO → Prop) (T : TypeId) (x : Operand) (f : Nat) : exec1 E dr fr L H d (.fieldAddr T x f) k = faS (offT E.P T f) (op1 fr x) fun s => k s L H := rfl
theorem r142 (E : Env) (dr : Bool) (fr : List SV) (L : List Box) (H : List HO) (d : Option Nat) (k : SV → List Box → List HO → Prop) (T : TypeId) (x : Operand) (f : Nat) : exec1 E dr fr L H d (.field T x f) k = withV (op1 fr x) fun x => fldS (fldT E.P T f) x fun s => k s L H := rfl
theorem r143 (E : Env) (dr : Bool) (fr : List SV) (L : List Box) (H : List HO) (d : Option Nat) (k : SV → List Box → List HO → Prop) (T : TypeId) (x i : Operand) : exec1 E dr fr L H d (.indexAddr T x i) k = withV (op1 fr i) fun i => ixS (slT E.P T) (arT E.P T) (op1 fr x) i fun s => k s L H := rfl
theorem r144 (E : Env) (dr : Bool) (fr : List SV) (L : List Box) (H : List HO) (d : Option Nat) (k : SV → List Box → List HO → Prop) (T : TypeId) (x i : Operand) : exec1 E dr fr L H d (.index T x i) k = withV (op1 fr x) fun x => withV (op1 fr i) fun i => idxS (arT E.P T) x i fun s => k s L H := rfl
theorem r145 (E : Env) (dr : Bool) (fr : List SV) (L : List Box) (H : List HO) (d : Option Nat) (k : SV → List Box → List HO → Prop) (x : Operand) (i : Nat) : exec1 E dr fr L H d (.extract x i) k = withV (op1 fr x) fun x => extS x i fun s => k s L H := rfl
theorem r146 (E : Env) (dr : Bool) (fr : List SV) (L : List Box) (H : List HO) (d : Option Nat) (k : SV → List Box → List HO → Prop) (T : TypeId) (ps : List (Nat × Operand)) : exec1 E dr fr L H d (.build T ps.toArray) k = withVs (ps.map fun p => op1 fr p.2) fun xs => bldS (placesT E.P T) (zeroT E.P T) ((ps.map (·.1)).zip xs) fun s => k s L H := build_rule E dr fr L H d k T ps
theorem r147 (E : Env) (dr : Bool) (fr : List SV) (L : List Box) (H : List HO) (d : Option Nat) (k : SV → List Box → List HO → Prop) (T : TypeId) (x : Operand) (a b c : Option Operand) : exec1 E dr fr L H d (.slice T x a b c) k = withV (op1 fr x) fun x => optV (a.map (op1 fr)) fun a => optV (b.map (op1 fr)) fun b => optV (c.map (op1 fr)) fun c => slS (slT E.P T) x a b c fun s => k s L H := rfl
theorem r148 (E : Env) (dr : Bool) (fr : List SV) (L : List Box) (H : List HO) (d : Option Nat) (k : SV → List Box → List HO → Prop) (T : TypeId) : exec1 E dr fr L H d (.alloc T) k = allocS E d T (zeroT E.P T) L H k := alloc_rule E dr fr L H d k T
theorem r149 (E : Env) (dr : Bool) (fr : List SV) (L : List Box) (H : List HO) (d : Option Nat) (k : SV → List Box → List HO → Prop) (T : TypeId) (x : Operand) : exec1 E dr fr L H d (.box T x) k = withV (op1 fr x) fun x => newBox E d T (vcells x) L H k := rfl
theorem r150 (E : Env) (dr : Bool) (fr : List SV) (L : List Box) (H : List HO) (d : Option Nat) (k : SV → List Box → List HO → Prop) (T : TypeId) (a x : Operand) : exec1 E dr fr L H d (.store T a x) k = withV (op1 fr x) fun x => stS L H (szT E.P T) (op1 fr a) x fun L H => k (.v undef) L H := rfl
theorem r151 (E : Env) (dr : Bool) (fr : List SV) (L : List Box) (H : List HO) (d : Option Nat) (k : SV → List Box → List HO → Prop) (T : TypeId) (n : Nat) (ps : List (Nat × Operand)) : exec1 E dr fr L H d (.buildSlice T n ps.toArray) k = withVs (ps.map fun p => op1 fr p.2) fun xs => bsS (elT E.P T) n ((ps.map (·.1)).zip xs) L H k := rfl
theorem r152 (E : Env) (dr : Bool) (fr : List SV) (L : List Box) (H : List HO) (d : Option Nat) (k : SV → List Box → List HO → Prop) (T : TypeId) (n c : Operand) : exec1 E dr fr L H d (.makeSlice T n c) k = withV (op1 fr n) fun n => withV (op1 fr c) fun c => mkS (elT E.P T) n c L H k := rfl
theorem r153 (E : Env) (dr : Bool) (fr : List SV) (L : List Box) (H : List HO) (d : Option Nat) (k : SV → List Box → List HO → Prop) (f : Operand) (as : List Operand) (ts : Array TypeId) : exec1 E dr fr L H d (.call ⟨.value f, as.toArray, ts⟩) k = withVs (as.map (op1 fr)) fun args => invS E dr (op1 fr f) args L H k := rfl
theorem r154 (E : Env) (dr : Bool) (fr : List SV) (L : List Box) (H : List HO) (d : Option Nat) (k : SV → List Box → List HO → Prop) (x : Operand) (T : TypeId) : exec1 E dr fr L H d (.call ⟨.builtin .len, #[x], #[T]⟩) k = ((slT E.P T).isSome = true ∧ withV (op1 fr x) fun x => lenS x fun s => k s L H) := rfl
theorem r155 (E : Env) (dr : Bool) (fr : List SV) (L : List Box) (H : List HO) (d : Option Nat) (k : SV → List Box → List HO → Prop) (x : Operand) (T : TypeId) : exec1 E dr fr L H d (.call ⟨.builtin .cap, #[x], #[T]⟩) k = ((slT E.P T).isSome = true ∧ withV (op1 fr x) fun x => capS x fun s => k s L H) := rfl
theorem r156 (E : Env) (dr : Bool) (fr : List SV) (L : List Box) (H : List HO) (d : Option Nat) (k : SV → List Box → List HO → Prop) (x y : Operand) (ts : Array TypeId) : exec1 E dr fr L H d (.call ⟨.builtin .max, #[x, y], ts⟩) k = withV (op1 fr x) fun x => withV (op1 fr y) fun y => mmS true x y fun s => k s L H := rfl
theorem r157 (E : Env) (dr : Bool) (fr : List SV) (L : List Box) (H : List HO) (d : Option Nat) (k : SV → List Box → List HO → Prop) (x y : Operand) (ts : Array TypeId) : exec1 E dr fr L H d (.call ⟨.builtin .min, #[x, y], ts⟩) k = withV (op1 fr x) fun x => withV (op1 fr y) fun y => mmS false x y fun s => k s L H := rfl
theorem r158 (E : Env) (dr : Bool) (fr : List SV) (L : List Box) (H : List HO) (d : Option Nat) (k : SV → List Box → List HO → Prop) (s x : Operand) (T T' : TypeId) : exec1 E dr fr L H d (.call ⟨.builtin .append, #[s, x], #[T, T']⟩) k = (T' = T ∧ withV (op1 fr s) fun s => withV (op1 fr x) fun x => app1 (elT E.P T) E.w0 s x H fun v H => k (.v v) L H) := rfl
theorem r159 (w0 : Base) (e : TypeId × Nat × List Value × Nat) (s x : Value) (H : List HO) (K : Value → List HO → Prop) : app1 (some e) w0 s x H K = hold (AppOb w0 (some e) s x H K) ⟨0⟩ := rfl
theorem r160 (K : SV → Prop) (k1 k2 k : IntKind) (n : Int) : cv1 (some k1) (some k2) (.int k n) K = (k1 = k ∧ K (.v (.int k2 (k2.wrap n)))) := rfl
theorem r161 (K : SV → Prop) (a b : SV) : pickS (.b true) a b K = K a := rfl
theorem r162 (K : SV → Prop) (a b : SV) : pickS (.b false) a b K = K b := rfl
theorem r163 (K : SV → Prop) (t p q : Bool) : pickS (.v (.bool t)) (.v (.bool p)) (.v (.bool q)) K = K (.v (.bool (bif t then p else q))) := by simp [pickS, withV]
theorem r164 (K : SV → Prop) (t p q : Bool) : pickS (.v (.bool t)) (.v (.bool p)) (.b q) K = K (.v (.bool (bif t then p else q))) := by simp [pickS, withV]
theorem r165 (K : SV → Prop) (t p q : Bool) : pickS (.v (.bool t)) (.b p) (.v (.bool q)) K = K (.v (.bool (bif t then p else q))) := by simp [pickS, withV]
theorem r166 (K : SV → Prop) (t p q : Bool) : pickS (.v (.bool t)) (.b p) (.b q) K = K (.v (.bool (bif t then p else q))) := by simp [pickS, withV]
theorem r167 (K : SV → Prop) (j o : Nat) : ncS (.p j o) K = K (.p j o) := rfl
theorem r168 (K : SV → Prop) (a : Addr) : ncS (.v (.pointer (some a))) K = K (.v (.pointer (some a))) := rfl
theorem r169 (K : SV → Prop) (f : Nat) (x y : Array Value) : ncS (.v (.func (.func f) x y)) K = K (.v (.func (.func f) x y)) := rfl
theorem r170 (K : SV → Prop) (f : Nat) (x y : Array Value) : ncS (.v (.func (.yield f) x y)) K = K (.v (.func (.yield f) x y)) := rfl
theorem r171 (w0 : Base) (L : List Box) (H : List HO) (k : Option Nat) (K : SV → Prop) (j o : Nat) : ldS w0 L H (some k) (.p j o) K = (j < L.length ∧ ldBox (boxAt L j) o k K) := rfl
theorem r172 (w0 : Base) (L : List Box) (H : List HO) (k : Option Nat) (K : SV → Prop) (a : Addr) : ldS w0 L H (some k) (.v (.pointer (some a))) K = hold (LdOb w0 H a k K) ⟨0⟩ := rfl
theorem r173 (K : SV → Prop) (cs : List Value) (o : Nat) : ldBox cs o none K = ldb1 (cs[o]?) K := ldb_rule cs o K
theorem r174 (K : SV → Prop) (v : Value) : ldb1 (some v) K = K (.v v) := rfl
theorem r175 (K : SV → Prop) (cs : List Value) (o n : Nat) : ldBox cs o (some n) K = (o + n ≤ cs.length ∧ K (.v (.agg ((cs.drop o).take n).toArray))) := rfl
theorem r176 (P : Program) (o : BinOp) (T : TypeId) (k k' : IntKind) (x y : Int) (K : SV → Prop) : binS P o T (.int k x) (.int k' y) K = (k = k' ∧ binI o k x y K) := rfl
theorem r177 (k : IntKind) (x y : Int) (K : SV → Prop) : binI .add k x y K = K (.v (.int k (k.wrap (x + y)))) := rfl
theorem r178 (k : IntKind) (x y : Int) (K : SV → Prop) : binI .sub k x y K = K (.v (.int k (k.wrap (x - y)))) := rfl
theorem r179 (k : IntKind) (x y : Int) (K : SV → Prop) : binI .mul k x y K = K (.v (.int k (k.wrap (x * y)))) := rfl
theorem r180 (k : IntKind) (x y : Int) (K : SV → Prop) : binI .quo k x y K = (y ≠ 0 ∧ K (.v (.int k (k.wrap (x.tdiv y))))) := rfl
theorem r181 (k : IntKind) (x y : Int) (K : SV → Prop) : binI .rem k x y K = (y ≠ 0 ∧ K (.v (.int k (x.tmod y)))) := rfl
theorem r182 (k : IntKind) (x y : Int) (K : SV → Prop) : binI .shl k x y K = (0 ≤ y ∧ K (.v (.int k (k.wrap (x * 2 ^ (min y.toNat k.bits)))))) := rfl
theorem r183 (k : IntKind) (x y : Int) (K : SV → Prop) : binI .shr k x y K = (0 ≤ y ∧ K (.v (.int k (x.fdiv (2 ^ (min y.toNat k.bits)))))) := rfl
theorem r184 (k : IntKind) (x y : Int) (K : SV → Prop) : binI .and k x y K = K (.v (.int k (bitS .and k x y))) := rfl
theorem r185 (k : IntKind) (x y : Int) (K : SV → Prop) : binI .or k x y K = K (.v (.int k (bitS .or k x y))) := rfl
theorem r186 (k : IntKind) (x y : Int) (K : SV → Prop) : binI .xor k x y K = K (.v (.int k (bitS .xor k x y))) := rfl
theorem r187 (k : IntKind) (x y : Int) (K : SV → Prop) : binI .andNot k x y K = K (.v (.int k (bitS .andNot k x y))) := rfl
theorem r188 (k : IntKind) (x y : Int) (K : SV → Prop) : binI .eql k x y K = K (.v (.bool (x == y))) := rfl
theorem r189 (k : IntKind) (x y : Int) (K : SV → Prop) : binI .neq k x y K = K (.v (.bool (x != y))) := rfl
theorem r190 (k : IntKind) (x y : Int) (K : SV → Prop) : binI .lss k x y K = K (.v (.bool (decide (x < y)))) := rfl
theorem r191 (k : IntKind) (x y : Int) (K : SV → Prop) : binI .leq k x y K = K (.v (.bool (decide (x ≤ y)))) := rfl
theorem r192 (k : IntKind) (x y : Int) (K : SV → Prop) : binI .gtr k x y K = K (.v (.bool (decide (x > y)))) := rfl
theorem r193 (k : IntKind) (x y : Int) (K : SV → Prop) : binI .geq k x y K = K (.v (.bool (decide (x ≥ y)))) := rfl
theorem r194 (P : Program) (T : TypeId) (a b : Bool) (K : SV → Prop) : binS P .eql T (.bool a) (.bool b) K = (kdT P T = some 1 ∧ K (.v (.bool (a == b)))) := rfl
theorem r195 (P : Program) (T : TypeId) (a b : Bool) (K : SV → Prop) : binS P .neq T (.bool a) (.bool b) K = (kdT P T = some 1 ∧ K (.v (.bool (!(a == b))))) := rfl
theorem r196 (P : Program) (T : TypeId) (a : Option Addr) (n m n' m' : Nat) (K : SV → Prop) : binS P .eql T (.slice a n m) (.slice none n' m') K = (kdT P T = some 2 ∧ K (.v (.bool a.isNone))) := rfl
theorem r197 (P : Program) (T : TypeId) (a : Option Addr) (n m n' m' : Nat) (K : SV → Prop) : binS P .neq T (.slice a n m) (.slice none n' m') K = (kdT P T = some 2 ∧ K (.v (.bool (!a.isNone)))) := rfl
theorem r198 (P : Program) (T : TypeId) (xs ys : Array Value) (K : SV → Prop) : binS P .eql T (.agg xs) (.agg ys) K = ∃ r, EqAgg P T xs.toList ys.toList r ∧ K (.v (.bool r)) := rfl
theorem r199 (P : Program) (T : TypeId) (xs ys : Array Value) (K : SV → Prop) : binS P .neq T (.agg xs) (.agg ys) K = ∃ r, EqAgg P T xs.toList ys.toList r ∧ K (.v (.bool (!r))) := rfl
theorem r200 (K : SV → Prop) (t : Bool) : unS .not (.b t) K = K (.b !t) := rfl
theorem r201 (K : SV → Prop) (t : Bool) : unS .not (.v (.bool t)) K = K (.v (.bool !t)) := rfl
theorem r202 (K : SV → Prop) (k : IntKind) (n : Int) : unS .neg (.v (.int k n)) K = K (.v (.int k (k.wrap (0 - n)))) := rfl
theorem r203 (K : SV → Prop) (n j o : Nat) : faS (some n) (.p j o) K = K (.p j (o + n)) := rfl
theorem r204 (K : SV → Prop) (n : Nat) (a : Addr) : faS (some n) (.v (.pointer (some a))) K = K (.v (.pointer (some (a.add n)))) := rfl
theorem r205 (K : SV → Prop) (o : Nat) (k : Option Nat) (cs : Array Value) : fldS (some (o, k)) (.agg cs) K = partS cs.toList o k K := rfl
theorem r206 (K : SV → Prop) (cs : List Value) (o : Nat) : partS cs o none K = ldb1 (cs[o]?) K := ldb_eq (cs[o]?) K
theorem r207 (K : SV → Prop) (cs : List Value) (o n : Nat) : partS cs o (some n) K = K (.v (.agg ((cs.drop o).take n).toArray)) := rfl
theorem r208 (ki : IntKind) (i : Int) (K : SV → Prop) (e sz len cap : Nat) (a : Option Addr) (ar : Option (Nat × Nat × Option Nat)) : ixS (some (e, sz)) ar (.v (.slice a len cap)) (.int ki i) K = (0 ≤ i ∧ i < len ∧ ∃ ad, a = some ad ∧ K (.v (.pointer (some (ad.add (i.toNat * sz)))))) := rfl
theorem r209 (ki : IntKind) (i : Int) (K : SV → Prop) (n sz j o : Nat) (k : Option Nat) : ixS none (some (n, sz, k)) (.p j o) (.int ki i) K = (0 ≤ i ∧ i < n ∧ K (.p j (o + i.toNat * sz))) := rfl
theorem r210 (ki : IntKind) (i : Int) (K : SV → Prop) (n sz : Nat) (k : Option Nat) (a : Addr) : ixS none (some (n, sz, k)) (.v (.pointer (some a))) (.int ki i) K = (0 ≤ i ∧ i < n ∧ K (.v (.pointer (some (a.add (i.toNat * sz)))))) := rfl
theorem r211 (ki : IntKind) (i : Int) (K : SV → Prop) (n sz : Nat) (k : Option Nat) (cs : Array Value) : idxS (some (n, sz, k)) (.agg cs) (.int ki i) K = (0 ≤ i ∧ i < n ∧ partS cs.toList (i.toNat * sz) k K) := rfl
theorem r212 (K : SV → Prop) (vs : Array Value) (i : Nat) : extS (.tuple vs) i K = ldb1 (vs.toList[i]?) K := ldb_eq (vs.toList[i]?) K
theorem r213 (d y : Nat) (K : Nat → Prop) : bndS none d y K = K d := rfl
theorem r214 (d y : Nat) (K : Nat → Prop) (k : IntKind) (i : Int) : bndS (some (.int k i)) d y K = (0 ≤ i ∧ i ≤ y ∧ K i.toNat) := rfl
theorem r215 (K : SV → Prop) (e sz len cap : Nat) (a : Option Addr) (lo hi mx : Option Value) : slS (some (e, sz)) (.slice a len cap) lo hi mx K = bndS mx cap cap fun m => (mx.isSome = true → hi.isSome = true) ∧ bndS hi len m fun h => bndS lo 0 h fun l => K (.v (.slice (if m = l then a else a.map (·.add (l * sz))) (h - l) (m - l))) := rfl
theorem r216 (K : SV → Prop) (a : Option Addr) (n m : Nat) : lenS (.slice a n m) K = K (.v (.int .i64 n)) := rfl
theorem r217 (K : SV → Prop) (a : Option Addr) (n m : Nat) : capS (.slice a n m) K = K (.v (.int .i64 m)) := rfl
theorem r218 (K : SV → Prop) (k k' : IntKind) (a b : Int) : mmS true (.int k a) (.int k' b) K = K (.v (.int k (max a b))) := rfl
theorem r219 (K : SV → Prop) (k k' : IntKind) (a b : Int) : mmS false (.int k a) (.int k' b) K = K (.v (.int k (min a b))) := rfl
theorem r220 (pl : List (Nat × Nat)) (z : List Value) (ps : List (Nat × Value)) (K : SV → Prop) : bldS (some pl) (some z) ps K = bld1 (fillS pl z ps) K := rfl
theorem r221 (K : SV → Prop) (cs : List Value) : bld1 (some cs) K = K (.v (.agg cs.toArray)) := rfl
theorem r222 (pl : List (Nat × Nat)) (cs : List Value) : fillS pl cs [] = some cs := rfl
theorem r223 (pl : List (Nat × Nat)) (cs : List Value) (i : Nat) (v : Value) (r : List (Nat × Value)) : fillS pl cs ((i, v) :: r) = fil1 (pl[i]?) pl cs (vcells v) r := fill_rule pl cs i v r
theorem r224 (o n : Nat) (pl : List (Nat × Nat)) (cs vs : List Value) (r : List (Nat × Value)) : fil1 (some (o, n)) pl cs vs r = if vs.length = n ∧ o + n ≤ cs.length then fillS pl (cs.take o ++ vs ++ cs.drop (o + n)) r else none := rfl
theorem r225 (k : IntKind) (n : Int) : vcells (.int k n) = [.int k n] := rfl
theorem r226 (k : IntKind) (n : Int) : Value.oneCell' (.int k n) = true := rfl
theorem r227 (t : Bool) : vcells (.bool t) = [.bool t] := rfl
theorem r228 (t : Bool) : Value.oneCell' (.bool t) = true := rfl
theorem r229 (a : Option Addr) (n m : Nat) : vcells (.slice a n m) = [.slice a n m] := rfl
theorem r230 (a : Option Addr) (n m : Nat) : Value.oneCell' (.slice a n m) = true := rfl
theorem r231 (s : ByteArray) : vcells (.string s) = [.string s] := rfl
theorem r232 (s : ByteArray) : Value.oneCell' (.string s) = true := rfl
theorem r233 (a : Option Addr) : vcells (.pointer a) = [.pointer a] := rfl
theorem r234 (a : Option Addr) : Value.oneCell' (.pointer a) = true := rfl
theorem r235 (a : Option Nat) : vcells (.map a) = [.map a] := rfl
theorem r236 (a : Option Nat) : Value.oneCell' (.map a) = true := rfl
theorem r237 (f : Go.Fn) (a b : Array Value) : vcells (.func f a b) = [.func f a b] := rfl
theorem r238 (f : Go.Fn) (a b : Array Value) : Value.oneCell' (.func f a b) = true := rfl
theorem r239  : vcells .nilFunc = [.nilFunc] := rfl
theorem r240  : Value.oneCell' .nilFunc = true := rfl
theorem r241 (l : List Value) : vcells (.agg l.toArray) = l := rfl
theorem r242 (E : Env) (T : TypeId) (cs : List Value) (L : List Box) (H : List HO) (k : SV → List Box → List HO → Prop) (d : Nat) : newBox E (some d) T cs L H k = nb1 (inRe d E.re) T cs L H k := nb_rule E T cs L H k d
theorem r243 (d : Nat) : inRe d [] = false := rfl
theorem r244 (d e : Nat) (l : List Nat) : inRe d (e :: l) = bif d == e then true else inRe d l := rfl
theorem r245 (T : TypeId) (cs : List Value) (L : List Box) (H : List HO) (k : SV → List Box → List HO → Prop) : nb1 true T cs L H k = ∀ b, k (.v (.pointer (some ⟨b, 0, none⟩))) L (.cells b T cs :: H) := rfl
theorem r246 (T : TypeId) (cs : List Value) (L : List Box) (H : List HO) (k : SV → List Box → List HO → Prop) : nb1 false T cs L H k = k (.p L.length 0) (L ++ [(T, cs)]) H := rfl
theorem r247 (E : Env) (T : TypeId) (d : Option Nat) (cs : List Value) (L : List Box) (H : List HO) (k : SV → List Box → List HO → Prop) : allocS E d T (some cs) L H k = newBox E d T cs L H k := rfl
theorem r248 (L : List Box) (H : List HO) (n : Option Nat) (x : Value) (K : List Box → List HO → Prop) (j o : Nat) : stS L H n (.p j o) x K = (n = some (vcells x).length ∧ (vcells x).all (·.oneCell') = true ∧ j < L.length ∧ o + (vcells x).length ≤ (boxAt L j).length ∧ K (lset L j ((boxAt L j).take o ++ vcells x ++ (boxAt L j).drop (o + (vcells x).length))) H) := rfl
theorem r249 (L : List Box) (H : List HO) (n : Option Nat) (x : Value) (K : List Box → List HO → Prop) (a : Addr) : stS L H n (.v (.pointer (some a))) x K = (n = some (vcells x).length ∧ (vcells x).all (·.oneCell') = true ∧ wr1 (vcells x) H a fun H => K L H) := rfl
theorem r250 (x : Value) (xs : List Value) (H : List HO) (a : Addr) (K : List HO → Prop) : wr1 (x :: xs) H a K = hold (WrOb H a (x :: xs) K) ⟨0⟩ := rfl
theorem r251 (e sz bytes : Nat) (z : List Value) (ki kj : IntKind) (n c : Int) (L : List Box) (H : List HO) (k : SV → List Box → List HO → Prop) : mkS (some (e, sz, z, bytes)) (.int ki n) (.int kj c) L H k = (0 ≤ n ∧ n ≤ c ∧ c * bytes ≤ 140737488355328 ∧ ∀ b, k (.v (.slice (some ⟨b, 0, none⟩) n.toNat c.toNat)) L (.row (.slice (some ⟨b, 0, none⟩) n.toNat c.toNat) e sz (zerosL n.toNat z) :: H)) := rfl
theorem r252 (e sz bytes : Nat) (z : List Value) (n : Nat) (ps : List (Nat × Value)) (L : List Box) (H : List HO) (k : SV → List Box → List HO → Prop) : bsS (some (e, sz, z, bytes)) n ps L H k = (n * sz ≤ 16777216 ∧ bs1 (fillS (slotsL n 0 sz) (zersL n z) ps) fun cs => ∀ b, k (.v (.slice (some ⟨b, 0, none⟩) n n)) L (.row (.slice (some ⟨b, 0, none⟩) n n) e sz cs :: H)) := bs_rule e sz bytes z n ps L H k
theorem r253 (i sz : Nat) : slotsL 0 i sz = [] := rfl
theorem r254 (n i sz : Nat) : slotsL (n + 1) i sz = (i * sz, sz) :: slotsL n (i + 1) sz := rfl
theorem r255 (z : List Value) : zersL 0 z = [] := rfl
theorem r256 (n : Nat) (z : List Value) : zersL (n + 1) z = z ++ zersL n z := rfl
theorem r257 (cs : List Value) (K : List Value → Prop) : bs1 (some cs) K = K cs := rfl
theorem r258 (E : Env) (dr : Bool) (args : List Value) (L : List Box) (H : List HO) (k : SV → List Box → List HO → Prop) (g : Nat) (first cap : List Value) : invS E dr (.v (.func (.func g) first.toArray cap.toArray)) args L H k = (CallT E.P g ∧ call1 (E.det g (first ++ args ++ cap)) E dr g (first ++ args ++ cap) L H k) := inv_rule E dr args L H k g first cap
theorem r259 (E : Env) (dr : Bool) (args : List Value) (L : List Box) (H : List HO) (k : SV → List Box → List HO → Prop) (l : Nat) (first cap : List Value) : invS E dr (.v (.func (.yield l) first.toArray cap.toArray)) args L H k = yld1 (first ++ args) E dr l L H k := rfl
theorem r260 (E : Env) (dr : Bool) (L : List Box) (H : List HO) (k : SV → List Box → List HO → Prop) (l : Nat) (a b : Value) : yld1 [a, b] E dr l L H k = hold (CallOb E.P E.w0 dr (.yield l) [a, b] H fun v H => k (.v v) L H) ⟨0⟩ := rfl
theorem r261 (E : Env) (dr : Bool) (L : List Box) (H : List HO) (k : SV → List Box → List HO → Prop) (l : Nat) (a : Value) : yld1 [a] E dr l L H k = hold (CallOb E.P E.w0 dr (.yield l) [a] H fun v H => k (.v v) L H) ⟨0⟩ := rfl
theorem r262 (E : Env) (dr : Bool) (args : List Value) (L : List Box) (H : List HO) (k : SV → List Box → List HO → Prop) (g : Nat) (v : Value) : call1 (some v) E dr g args L H k = k (.v v) L H := rfl
theorem r263 (E : Env) (dr : Bool) (args : List Value) (L : List Box) (H : List HO) (k : SV → List Box → List HO → Prop) (g : Nat) : call1 none E dr g args L H k = hold (CallOb E.P E.w0 dr (.fn g) args H fun v H => k (.v v) L H) ⟨0⟩ := rfl
theorem r264 (E : Env) (fr : List SV) (L : List Box) (H : List HO) (K : List Value → Prop) : resK E [] fr L H K = K [] := rfl
theorem r265 (E : Env) (rs : List ResultVar) (fr : List SV) (L : List Box) (H : List HO) (K : List Value → Prop) (t : Nat) : resK E (.tmp t :: rs) fr L H K = withV (fget fr t) fun x => resK E rs fr L H fun xs => K (x :: xs) := rfl
theorem r266 (E : Env) (rs : List ResultVar) (fr : List SV) (L : List Box) (H : List HO) (K : List Value → Prop) (a T : Nat) : resK E (.cell a T :: rs) fr L H K = ldS E.w0 L H (ldT E.P T) (fget fr a) fun s => withV s fun x => resK E rs fr L H fun xs => K (x :: xs) := rfl
theorem r267 (x : Value) : tupV [x] = x := rfl
theorem r268  : tupV [] = .tuple #[] := rfl
theorem r269 (x y : Value) : tupV [x, y] = .tuple #[x, y] := rfl
theorem r270 (x y z : Value) : tupV [x, y, z] = .tuple #[x, y, z] := rfl
theorem r271 (args : List Value) (n : Nat) : initF args n = args.map SV.v ++ List.replicate (n - args.length) (.v undef) := rfl
theorem sx0 :
    (∀ (E : Env) (Q : XSt) (fr : List SV) (L : List Box) (H : List HO), W E .skip Q fr L H = Q .nxt fr L H) ∧
    (∀ (E : Env) (Q : XSt) (fr : List SV) (L : List Box) (H : List HO), W E .ret Q fr L H = Q .ret fr L H) ∧
    (∀ (E : Env) (Q : XSt) (fr : List SV) (L : List Box) (H : List HO) (i : Nat), W E (.exit i) Q fr L H = Q (.ext i) fr L H) ∧
    (∀ (E : Env) (Q : XSt) (fr : List SV) (L : List Box) (H : List HO) (a b : Code), W E (.seq a b) Q fr L H = seq1 (cutL E.cuts a b) E a b Q fr L H) ∧
    (∀ (E : Env) (Q : XSt) (fr : List SV) (L : List Box) (H : List HO) (a b : Code), seq1 false E a b Q fr L H = W E a (seqQ (W E b Q) Q) fr L H) ∧
    (∀ (E : Env) (Q : XSt) (fr : List SV) (L : List Box) (H : List HO) (a b : Code), seq1 true E a b Q fr L H = ev3 (fun fr L H => CutOb E.w0 (W E a) (W E b Q) Q fr L H) ⟨0⟩ fr L H) ∧
    (∀ (a b : Code), cutL [] a b = false) ∧
    (∀ (i : Nat) (l : List Nat) (a b : Code), cutL (i :: l) a b = orB (inCut (headR b) (i :: l)) (inCut (tailR a) (i :: l))) ∧
    (∀ (b : Bool), orB true b = true) ∧
    (∀ (b : Bool), orB false b = b) ∧
    (∀ (i : Nat) (o : Array Oper) (d : Bool), headR (.region i o d) = 2 * i) ∧
    (∀ (a b : Code), headR (.seq a b) = headR a) ∧
    (∀ (i : Nat) (a : Code), headR (.block i a) = headR a) ∧
    (∀ (a : Code), headR (.loop a) = headR a) ∧
    (∀ (c : Operand) (a b : Code), headR (.cond c a b) = 1000000) ∧
    (∀ (i : Nat), headR (.exit i) = 1000000) ∧
    (headR .ret = 1000000) ∧
    (headR .skip = 1000000) ∧
    (∀ (g : Operand) (ps : Array Tmp) (a b : Code), headR (.rangeFunc g ps a b) = 1000000) ∧
    (∀ (i : Nat) (o : Array Oper) (d : Bool), tailR (.region i o d) = 2 * i + 1) ∧
    (∀ (a b : Code), tailR (.seq a b) = tailR b) ∧
    (∀ (i : Nat) (a : Code), tailR (.block i a) = 1000000) ∧
    (∀ (a : Code), tailR (.loop a) = 1000000) ∧
    (∀ (c : Operand) (a b : Code), tailR (.cond c a b) = 1000000) ∧
    (∀ (i : Nat), tailR (.exit i) = 1000000) ∧
    (tailR .ret = 1000000) ∧
    (tailR .skip = 1000000) ∧
    (∀ (g : Operand) (ps : Array Tmp) (a b : Code), tailR (.rangeFunc g ps a b) = 1000000) ∧
    (∀ (i : Nat), inCut i [] = false) ∧
    (∀ (i j : Nat) (l : List Nat), inCut i (j :: l) = bif i == j then true else inCut i l) ∧
    (∀ {σ : Type} (w0 : Base) (wr : List (Nat × Nat)) (enc : σ → List (Nat × Value)) (Lf : σ → List Box) (Inv : σ → List HO → Prop) (fr : List SV) (n : Nat) (Q : XSt) (fr' : List SV) (L' : List Box) (H' : List HO), cutQ w0 wr enc Lf Inv fr n Q .nxt fr' L' H' = ∃ s' H2, fits 0 wr (enc s') fr fr' ∧ L'.take n = Lf s' ∧ HImp w0 H' H2 ∧ Inv s' H2) ∧
    (∀ {σ : Type} (w0 : Base) (wr : List (Nat × Nat)) (enc : σ → List (Nat × Value)) (Lf : σ → List Box) (Inv : σ → List HO → Prop) (fr : List SV) (n : Nat) (Q : XSt) (fr' : List SV) (L' : List Box) (H' : List HO), cutQ w0 wr enc Lf Inv fr n Q .ret fr' L' H' = Q .ret fr' L' H') ∧
    (∀ {σ : Type} (w0 : Base) (wr : List (Nat × Nat)) (enc : σ → List (Nat × Value)) (Lf : σ → List Box) (Inv : σ → List HO → Prop) (fr : List SV) (n : Nat) (Q : XSt) (fr' : List SV) (L' : List Box) (H' : List HO) (i : Nat), cutQ w0 wr enc Lf Inv fr n Q (.ext i) fr' L' H' = Q (.ext i) fr' L' H') ∧
    (∀ (E : Env) (Q : XSt) (fr : List SV) (L : List Box) (H : List HO) (i : Nat) (a : Code), W E (.block i a) Q fr L H = W E a (blkQ i Q) fr L H) ∧
    (∀ (E : Env) (Q : XSt) (fr : List SV) (L : List Box) (H : List HO) (i : Nat) (l : List Oper), W E (.region i l.toArray false) Q fr L H = execs E false l l fr L H (Q .nxt)) ∧
    (∀ (E : Env) (Q : XSt) (fr : List SV) (L : List Box) (H : List HO) (i : Nat) (l : List Oper), W E (.region i l.toArray true) Q fr L H = planS E (lkO i E.ord) l fr L H (Q .nxt)) ∧
    (∀ (E : Env) (Q : XSt) (fr : List SV) (L : List Box) (H : List HO) (c : Operand) (a b : Code), W E (.cond c a b) Q fr L H = cnd1 (op1 fr c) c fr (fun fr => W E a Q fr L H) (fun fr => W E b Q fr L H)) ∧
    (∀ (E : Env) (Q : XSt) (fr : List SV) (L : List Box) (H : List HO) (a : Code), W E (.loop a) Q fr L H = ev3 (fun fr L H => LoopOb E.w0 (W E a) Q fr L H) ⟨0⟩ fr L H) ∧
    (∀ (E : Env) (Q : XSt) (fr : List SV) (L : List Box) (H : List HO) (g : Operand) (ps : List Tmp) (a b : Code), W E (.rangeFunc g ps.toArray a b) Q fr L H = rng1 (op1 fr g) E.P E.w0 (W E a) (W E b) ps Q fr L H) ∧
    (∀ (v : Value) (P : Program) (w0 : Base) (Ba Bb : XSt → St) (ps : List Tmp) (Q : XSt) (fr : List SV) (L : List Box) (H : List HO), rng1 (.v v) P w0 Ba Bb ps Q fr L H = ev3 (fun fr L H => RangeOb P w0 Ba Bb (.v v) ps Q fr L H) ⟨0⟩ fr L H) :=
  ⟨@r0, @r1, @r2, @r3, @r4, @r5, @r6, @r7, @r8, @r9, @r10, @r11, @r12, @r13, @r14, @r15, @r16, @r17, @r18, @r19, @r20, @r21, @r22, @r23, @r24, @r25, @r26, @r27, @r28, @r29, @r30, @r31, @r32, @r33, @r34, @r35, @r36, @r37, @r38, @r39⟩
theorem sx1 :
    (∀ (K : St) (Q : XSt), seqQ K Q .nxt = K) ∧
    (∀ (K : St) (Q : XSt), seqQ K Q .ret = Q .ret) ∧
    (∀ (K : St) (Q : XSt) (i : Nat), seqQ K Q (.ext i) = Q (.ext i)) ∧
    (∀ (i : Nat) (Q : XSt), blkQ i Q .nxt = Q .nxt) ∧
    (∀ (i : Nat) (Q : XSt), blkQ i Q .ret = Q .ret) ∧
    (∀ (i j : Nat) (Q : XSt), blkQ i Q (.ext j) = bif j == i then Q .nxt else Q (.ext j)) ∧
    (∀ (E : Env) (rs : List ResultVar) (Post : Value → List HO → Prop) (fr : List SV) (L : List Box) (H : List HO), retQ E rs Post .nxt fr L H = resK E rs fr L H fun vs => Post (tupV vs) H) ∧
    (∀ (E : Env) (rs : List ResultVar) (Post : Value → List HO → Prop) (fr : List SV) (L : List Box) (H : List HO), retQ E rs Post .ret fr L H = resK E rs fr L H fun vs => Post (tupV vs) H) ∧
    (∀ (K : St) (fr : List SV) (L : List Box) (H : List HO), assignQ K .nxt fr L H = K fr L H) ∧
    (∀ {σ : Type} (w0 : Base) (wr : List (Nat × Nat)) (enc : σ → List (Nat × Value)) (Lf : σ → List Box) (Inv : σ → List HO → Prop) (μ : σ → Nat) (fr : List SV) (n m : Nat) (Q : XSt) (fr' : List SV) (L' : List Box) (H' : List HO), loopQ w0 wr enc Lf Inv μ fr n m Q .nxt fr' L' H' = ∃ s' H2, fits 0 wr (enc s') fr fr' ∧ L'.take n = Lf s' ∧ HImp w0 H' H2 ∧ Inv s' H2 ∧ μ s' < m) ∧
    (∀ {σ : Type} (w0 : Base) (wr : List (Nat × Nat)) (enc : σ → List (Nat × Value)) (Lf : σ → List Box) (Inv : σ → List HO → Prop) (μ : σ → Nat) (fr : List SV) (n m : Nat) (Q : XSt) (fr' : List SV) (L' : List Box) (H' : List HO), loopQ w0 wr enc Lf Inv μ fr n m Q .ret fr' L' H' = Q .ret fr' L' H') ∧
    (∀ {σ : Type} (w0 : Base) (wr : List (Nat × Nat)) (enc : σ → List (Nat × Value)) (Lf : σ → List Box) (Inv : σ → List HO → Prop) (μ : σ → Nat) (fr : List SV) (n m : Nat) (Q : XSt) (fr' : List SV) (L' : List Box) (H' : List HO) (i : Nat), loopQ w0 wr enc Lf Inv μ fr n m Q (.ext i) fr' L' H' = Q (.ext i) fr' L' H') ∧
    (∀ (w0 : Base) (n : Nat) (I : List Box → List HO → Prop) (Q : XSt) (fr fr2 : List SV) (L2 : List Box) (H2 : List HO), rangeQ w0 n I Q fr .nxt fr2 L2 H2 = ∃ H3, HImp w0 H2 H3 ∧ I (L2.take n) H3) ∧
    (∀ (w0 : Base) (n : Nat) (I : List Box → List HO → Prop) (Q : XSt) (fr fr2 : List SV) (L2 : List Box) (H2 : List HO), rangeQ w0 n I Q fr .ret fr2 L2 H2 = ∃ H3, HImp w0 H2 H3 ∧ Q .ret fr (L2.take n) H3) ∧
    (∀ (w0 : Base) (n : Nat) (I : List Box → List HO → Prop) (Q : XSt) (fr fr2 : List SV) (L2 : List Box) (H2 : List HO) (i : Nat), rangeQ w0 n I Q fr (.ext i) fr2 L2 H2 = ∃ H3, HImp w0 H2 H3 ∧ Q (.ext i) fr (L2.take n) H3) ∧
    (∀ (fr : List SV) (t : Nat) (ts : List Nat) (v : Value) (vs : List Value), setPs fr (t :: ts) (v :: vs) = setPs (fset fr t (.v v)) ts vs) ∧
    (∀ (fr : List SV), setPs fr [] [] = fr) ∧
    (∀ (i : Nat) (wr : List (Nat × Nat)) (enc : List (Nat × Value)) (g : Nat → Value), hv i wr enc g [] = []) ∧
    (∀ (i : Nat) (wr : List (Nat × Nat)) (enc : List (Nat × Value)) (g : Nat → Value) (x : SV) (r : List SV), hv i wr enc g (x :: r) = hv1 (lkV i enc) (inI i wr) (g i) x :: hv (i + 1) wr enc g r) ∧
    (∀ (v : Value) (w : Bool) (g : Value) (x : SV), hv1 (some v) w g x = .v v) ∧
    (∀ (g : Value) (x : SV), hv1 none true g x = .v g) ∧
    (∀ (g : Value) (x : SV), hv1 none false g x = x) ∧
    (∀ (i : Nat), lkV i [] = none) ∧
    (∀ (i j : Nat) (v : Value) (r : List (Nat × Value)), lkV i ((j, v) :: r) = bif i == j then some v else lkV i r) ∧
    (∀ (i : Nat), lkO i [] = none) ∧
    (∀ (i j : Nat) (v : Plan) (r : List (Nat × Plan)), lkO i ((j, v) :: r) = bif i == j then some v else lkO i r) ∧
    (∀ (E : Env) (all : List Oper) (fr : List SV) (L : List Box) (H : List HO) (k : List SV → List Box → List HO → Prop), planS E none all fr L H k = execs E true all all fr L H k) ∧
    (∀ (E : Env) (all : List Oper) (fr : List SV) (L : List Box) (H : List HO) (k : List SV → List Box → List HO → Prop) (p : Plan), planS E (some p) all fr L H k = execsP E all p fr L H k) ∧
    (∀ (E : Env) (all : List Oper) (fr : List SV) (L : List Box) (H : List HO) (k : List SV → List Box → List HO → Prop), execsP E all .fin fr L H k = k fr L H) ∧
    (∀ (E : Env) (all : List Oper) (fr : List SV) (L : List Box) (H : List HO) (k : List SV → List Box → List HO → Prop), execsP E all .no fr L H k = True) ∧
    (∀ (E : Env) (all : List Oper) (fr : List SV) (L : List Box) (H : List HO) (k : List SV → List Box → List HO → Prop) (i : Nat) (p : Plan), execsP E all (.one i p) fr L H k = one1 E all (nthO all i) fr L H fun fr L H => execsP E all p fr L H k) ∧
    (∀ (E : Env) (all : List Oper) (fr : List SV) (L : List Box) (H : List HO) (k : List SV → List Box → List HO → Prop) (i : Nat) (p q : Plan), execsP E all (.alt i p q) fr L H k = ((one1 E all (nthO all i) fr L H fun fr L H => execsP E all p fr L H k) ∧ execsP E all q fr L H k)) ∧
    (∀ (E : Env) (all : List Oper) (fr : List SV) (L : List Box) (H : List HO) (k : List SV → List Box → List HO → Prop) (p : Plan), execsP E all (ones [] p) fr L H k = execsP E all p fr L H k) ∧
    (∀ (E : Env) (all : List Oper) (fr : List SV) (L : List Box) (H : List HO) (k : List SV → List Box → List HO → Prop) (i : Nat) (l : List Nat) (p : Plan), execsP E all (ones (i :: l) p) fr L H k = one1 E all (nthO all i) fr L H fun fr L H => execsP E all (ones l p) fr L H k) ∧
    (∀ (o : Oper) (l : List Oper), nthO (o :: l) 0 = some o) ∧
    (∀ (o : Oper) (l : List Oper) (n : Nat), nthO (o :: l) (n + 1) = nthO l n) ∧
    (∀ (E : Env) (all : List Oper) (fr : List SV) (L : List Box) (H : List HO) (k : List SV → List Box → List HO → Prop) (o : Oper), one1 E all (some o) fr L H k = execs E true all [o] fr L H k) ∧
    (∀ (i : Nat), inI i [] = false) ∧
    (∀ (i a b : Nat) (r : List (Nat × Nat)), inI i ((a, b) :: r) = ((decide (a ≤ i) && decide (i ≤ b)) || inI i r)) ∧
    (∀ (i : Nat) (wr : List (Nat × Nat)) (enc : List (Nat × Value)), fits i wr enc [] [] = True) :=
  ⟨@r40, @r41, @r42, @r43, @r44, @r45, @r46, @r47, @r48, @r49, @r50, @r51, @r52, @r53, @r54, @r55, @r56, @r57, @r58, @r59, @r60, @r61, @r62, @r63, @r64, @r65, @r66, @r67, @r68, @r69, @r70, @r71, @r72, @r73, @r74, @r75, @r76, @r77, @r78, @r79⟩
theorem sx2 :
    (∀ (i : Nat) (wr : List (Nat × Nat)) (enc : List (Nat × Value)) (x y : SV) (r r' : List SV), fits i wr enc (x :: r) (y :: r') = (fit1 (lkV i enc) (inI i wr) x y ∧ fits (i + 1) wr enc r r')) ∧
    (∀ (v : Value) (w : Bool) (x y : SV), fit1 (some v) w x y = isV y v) ∧
    (∀ (x y : SV), fit1 none true x y = True) ∧
    (∀ (x y : SV), fit1 none false x y = (x = y)) ∧
    (∀ (x v : Value), isV (.v x) v = (x = v)) ∧
    (∀ (t : Bool) (v : Value), isV (.b t) v = (Value.bool t = v)) ∧
    (∀ (c : Operand) (fr : List SV) (yes no : List SV → Prop), cnd1 (.b true) c fr yes no = yes fr) ∧
    (∀ (c : Operand) (fr : List SV) (yes no : List SV → Prop), cnd1 (.b false) c fr yes no = no fr) ∧
    (∀ (t : Bool) (d : Nat) (fr : List SV) (yes no : List SV → Prop), cnd1 (.v (.bool t)) (.tmp d) fr yes no = ((t = true → yes (fset fr d (.b true))) ∧ (t = false → no (fset fr d (.b false))))) ∧
    (∀ (E : Env) (dr : Bool) (all : List Oper) (fr : List SV) (L : List Box) (H : List HO) (k : St), execs E dr all [] fr L H k = k fr L H) ∧
    (∀ (E : Env) (dr : Bool) (all r : List Oper) (fr : List SV) (L : List Box) (H : List HO) (k : St) (d : Option Tmp) (op : Op) (t : TypeId) (p : String) (af : Array Edge), execs E dr all ({ dst := d, op := op, type := t, pos := p, after := af, guard := none } :: r) fr L H k = ev2 (fun fr L H => exec1 E dr fr L H d op fun s L H => execs E dr all r (put fr d s) L H k) ⟨0⟩ fr L H) ∧
    (∀ (E : Env) (dr : Bool) (all r : List Oper) (fr : List SV) (L : List Box) (H : List HO) (k : St) (d : Option Tmp) (op : Op) (t : TypeId) (p : String) (af : Array Edge) (j : Nat) (want : Bool), execs E dr all ({ dst := d, op := op, type := t, pos := p, after := af, guard := some (j, want) } :: r) fr L H k = ev2 (fun fr L H => gdS fr (dstOf all j) want (fun fr => exec1 E dr fr L H d op fun s L H => execs E dr all r (put fr d s) L H k) (fun fr => execs E dr all r (put fr d (.v undef)) L H k)) ⟨0⟩ fr L H) ∧
    (∀ (o : Oper) (l : List Oper), dstOf (o :: l) 0 = o.dst) ∧
    (∀ (o : Oper) (l : List Oper) (n : Nat), dstOf (o :: l) (n + 1) = dstOf l n) ∧
    (∀ (fr : List SV) (d : Nat) (want : Bool) (yes no : List SV → Prop), gdS fr (some d) want yes no = gd1 (fget fr d) fr d want yes no) ∧
    (∀ (fr : List SV) (d : Nat) (yes no : List SV → Prop), gd1 (.b true) fr d true yes no = yes fr) ∧
    (∀ (fr : List SV) (d : Nat) (yes no : List SV → Prop), gd1 (.b true) fr d false yes no = no fr) ∧
    (∀ (fr : List SV) (d : Nat) (yes no : List SV → Prop), gd1 (.b false) fr d true yes no = no fr) ∧
    (∀ (fr : List SV) (d : Nat) (yes no : List SV → Prop), gd1 (.b false) fr d false yes no = yes fr) ∧
    (∀ (fr : List SV) (d : Nat) (yes no : List SV → Prop) (t : Bool), gd1 (.v (.bool t)) fr d true yes no = ((t = true → yes (fset fr d (.b true))) ∧ (t = false → no (fset fr d (.b false))))) ∧
    (∀ (fr : List SV) (d : Nat) (yes no : List SV → Prop), gd1 (.v undef) fr d true yes no = no fr) ∧
    (∀ (fr : List SV) (d : Nat) (yes no : List SV → Prop) (t : Bool), gd1 (.v (.bool t)) fr d false yes no = ((t = false → yes (fset fr d (.b false))) ∧ (t = true → no (fset fr d (.b true))))) ∧
    (∀ (fr : List SV) (d : Nat) (yes no : List SV → Prop), gd1 (.v undef) fr d false yes no = no fr) ∧
    (∀ (fr : List SV) (t : Nat), op1 fr (.tmp t) = fget fr t) ∧
    (∀ (fr : List SV) (t : Bool), op1 fr (.const (.bool t)) = .b t) ∧
    (∀ (fr : List SV) (k : IntKind) (n : Int), op1 fr (.const (.int k n)) = .v (.int k n)) ∧
    (∀ (fr : List SV) (a : Option Addr) (n m : Nat), op1 fr (.const (.slice a n m)) = .v (.slice a n m)) ∧
    (∀ (fr : List SV) (s : ByteArray), op1 fr (.const (.string s)) = .v (.string s)) ∧
    (∀ (fr : List SV) (a : Option Addr), op1 fr (.const (.pointer a)) = .v (.pointer a)) ∧
    (∀ (fr : List SV) (a : Array Value), op1 fr (.const (.agg a)) = .v (.agg a)) ∧
    (∀ (fr : List SV) (a : Array Value), op1 fr (.const (.tuple a)) = .v (.tuple a)) ∧
    (∀ (fr : List SV) (a : Option Nat), op1 fr (.const (.map a)) = .v (.map a)) ∧
    (∀ (fr : List SV) (f : Go.Fn) (a b : Array Value), op1 fr (.const (.func f a b)) = .v (.func f a b)) ∧
    (∀ (fr : List SV), op1 fr (.const .nilFunc) = .v .nilFunc) ∧
    (∀ (fr : List SV) (g : Nat), op1 fr (.global g) = .v (.pointer (some ⟨g, 0, none⟩))) ∧
    (∀ (fr : List SV) (f : Nat), op1 fr (.func f) = .v (.func (.func f) #[] #[])) ∧
    (∀ (x : SV) (l : List SV), fget (x :: l) 0 = x) ∧
    (∀ (x : SV) (l : List SV) (n : Nat), fget (x :: l) (n + 1) = fget l n) ∧
    (∀ (x y : SV) (l : List SV), fset (x :: l) 0 y = y :: l) ∧
    (∀ (x y : SV) (l : List SV) (n : Nat), fset (x :: l) (n + 1) y = x :: fset l n y) :=
  ⟨@r80, @r81, @r82, @r83, @r84, @r85, @r86, @r87, @r88, @r89, @r90, @r91, @r92, @r93, @r94, @r95, @r96, @r97, @r98, @r99, @r100, @r101, @r102, @r103, @r104, @r105, @r106, @r107, @r108, @r109, @r110, @r111, @r112, @r113, @r114, @r115, @r116, @r117, @r118, @r119⟩
theorem sx3 :
    (∀ (fr : List SV) (d : Nat) (s : SV), put fr (some d) s = fset fr d s) ∧
    (∀ (fr : List SV) (s : SV), put fr none s = fr) ∧
    (∀ (x : Value) (K : Value → Prop), withV (.v x) K = K x) ∧
    (∀ (t : Bool) (K : Value → Prop), withV (.b t) K = K (.bool t)) ∧
    (∀ (K : List Value → Prop), withVs [] K = K []) ∧
    (∀ (s : SV) (l : List SV) (K : List Value → Prop), withVs (s :: l) K = withV s fun x => withVs l fun xs => K (x :: xs)) ∧
    (∀ (K : Option Value → Prop), optV none K = K none) ∧
    (∀ (s : SV) (K : Option Value → Prop), optV (some s) K = withV s fun x => K (some x)) ∧
    (∀ (x : Box) (l : List Box), boxAt (x :: l) 0 = x.2) ∧
    (∀ (x : Box) (l : List Box) (n : Nat), boxAt (x :: l) (n + 1) = boxAt l n) ∧
    (∀ (x : Box) (l : List Box) (y : List Value), lset (x :: l) 0 y = (x.1, y) :: l) ∧
    (∀ (x : Box) (l : List Box) (y : List Value) (n : Nat), lset (x :: l) (n + 1) y = x :: lset l n y) ∧
    (∀ (E : Env) (dr : Bool) (fr : List SV) (L : List Box) (H : List HO) (d : Option Nat) (k : SV → List Box → List HO → Prop) (x : Operand), exec1 E dr fr L H d (.move x) k = k (op1 fr x) L H) ∧
    (∀ (E : Env) (dr : Bool) (fr : List SV) (L : List Box) (H : List HO) (d : Option Nat) (k : SV → List Box → List HO → Prop) (x : Operand), exec1 E dr fr L H d (.assign x) k = k (op1 fr x) L H) ∧
    (∀ (E : Env) (dr : Bool) (fr : List SV) (L : List Box) (H : List HO) (d : Option Nat) (k : SV → List Box → List HO → Prop) (c a b : Operand), exec1 E dr fr L H d (.pick c a b) k = pickS (op1 fr c) (op1 fr a) (op1 fr b) fun s => k s L H) ∧
    (∀ (E : Env) (dr : Bool) (fr : List SV) (L : List Box) (H : List HO) (d : Option Nat) (k : SV → List Box → List HO → Prop) (T : TypeId) (x : Operand), exec1 E dr fr L H d (.load T x) k = ldS E.w0 L H (ldT E.P T) (op1 fr x) fun s => k s L H) ∧
    (∀ (E : Env) (dr : Bool) (fr : List SV) (L : List Box) (H : List HO) (d : Option Nat) (k : SV → List Box → List HO → Prop) (x : Operand), exec1 E dr fr L H d (.nilCheck x) k = ncS (op1 fr x) fun s => k s L H) ∧
    (∀ (E : Env) (dr : Bool) (fr : List SV) (L : List Box) (H : List HO) (d : Option Nat) (k : SV → List Box → List HO → Prop) (o : BinOp) (T U : TypeId) (x y : Operand), exec1 E dr fr L H d (.binOp o T x y U) k = withV (op1 fr x) fun x => withV (op1 fr y) fun y => binS E.P o T x y fun s => k s L H) ∧
    (∀ (E : Env) (dr : Bool) (fr : List SV) (L : List Box) (H : List HO) (d : Option Nat) (k : SV → List Box → List HO → Prop) (o : UnOp) (T : TypeId) (x : Operand), exec1 E dr fr L H d (.unOp o T x) k = unS o (op1 fr x) fun s => k s L H) ∧
    (∀ (E : Env) (dr : Bool) (fr : List SV) (L : List Box) (H : List HO) (d : Option Nat) (k : SV → List Box → List HO → Prop) (S T : TypeId) (x : Operand), exec1 E dr fr L H d (.convert S T x) k = withV (op1 fr x) fun x => cv1 (intT E.P S) (intT E.P T) x fun s => k s L H) ∧
    (∀ (E : Env) (dr : Bool) (fr : List SV) (L : List Box) (H : List HO) (d : Option Nat) (k : SV → List Box → List HO → Prop) (f : Go.Fn) (xs ys : List Operand), exec1 E dr fr L H d (.makeFunc f xs.toArray ys.toArray) k = withVs (xs.map (op1 fr)) fun xs => withVs (ys.map (op1 fr)) fun ys => k (.v (.func f xs.toArray ys.toArray)) L H) ∧
    (∀ (E : Env) (dr : Bool) (fr : List SV) (L : List Box) (H : List HO) (d : Option Nat) (k : SV → List Box → List HO → Prop) (T : TypeId) (x : Operand) (f : Nat), exec1 E dr fr L H d (.fieldAddr T x f) k = faS (offT E.P T f) (op1 fr x) fun s => k s L H) ∧
    (∀ (E : Env) (dr : Bool) (fr : List SV) (L : List Box) (H : List HO) (d : Option Nat) (k : SV → List Box → List HO → Prop) (T : TypeId) (x : Operand) (f : Nat), exec1 E dr fr L H d (.field T x f) k = withV (op1 fr x) fun x => fldS (fldT E.P T f) x fun s => k s L H) ∧
    (∀ (E : Env) (dr : Bool) (fr : List SV) (L : List Box) (H : List HO) (d : Option Nat) (k : SV → List Box → List HO → Prop) (T : TypeId) (x i : Operand), exec1 E dr fr L H d (.indexAddr T x i) k = withV (op1 fr i) fun i => ixS (slT E.P T) (arT E.P T) (op1 fr x) i fun s => k s L H) ∧
    (∀ (E : Env) (dr : Bool) (fr : List SV) (L : List Box) (H : List HO) (d : Option Nat) (k : SV → List Box → List HO → Prop) (T : TypeId) (x i : Operand), exec1 E dr fr L H d (.index T x i) k = withV (op1 fr x) fun x => withV (op1 fr i) fun i => idxS (arT E.P T) x i fun s => k s L H) ∧
    (∀ (E : Env) (dr : Bool) (fr : List SV) (L : List Box) (H : List HO) (d : Option Nat) (k : SV → List Box → List HO → Prop) (x : Operand) (i : Nat), exec1 E dr fr L H d (.extract x i) k = withV (op1 fr x) fun x => extS x i fun s => k s L H) ∧
    (∀ (E : Env) (dr : Bool) (fr : List SV) (L : List Box) (H : List HO) (d : Option Nat) (k : SV → List Box → List HO → Prop) (T : TypeId) (ps : List (Nat × Operand)), exec1 E dr fr L H d (.build T ps.toArray) k = withVs (ps.map fun p => op1 fr p.2) fun xs => bldS (placesT E.P T) (zeroT E.P T) ((ps.map (·.1)).zip xs) fun s => k s L H) ∧
    (∀ (E : Env) (dr : Bool) (fr : List SV) (L : List Box) (H : List HO) (d : Option Nat) (k : SV → List Box → List HO → Prop) (T : TypeId) (x : Operand) (a b c : Option Operand), exec1 E dr fr L H d (.slice T x a b c) k = withV (op1 fr x) fun x => optV (a.map (op1 fr)) fun a => optV (b.map (op1 fr)) fun b => optV (c.map (op1 fr)) fun c => slS (slT E.P T) x a b c fun s => k s L H) ∧
    (∀ (E : Env) (dr : Bool) (fr : List SV) (L : List Box) (H : List HO) (d : Option Nat) (k : SV → List Box → List HO → Prop) (T : TypeId), exec1 E dr fr L H d (.alloc T) k = allocS E d T (zeroT E.P T) L H k) ∧
    (∀ (E : Env) (dr : Bool) (fr : List SV) (L : List Box) (H : List HO) (d : Option Nat) (k : SV → List Box → List HO → Prop) (T : TypeId) (x : Operand), exec1 E dr fr L H d (.box T x) k = withV (op1 fr x) fun x => newBox E d T (vcells x) L H k) ∧
    (∀ (E : Env) (dr : Bool) (fr : List SV) (L : List Box) (H : List HO) (d : Option Nat) (k : SV → List Box → List HO → Prop) (T : TypeId) (a x : Operand), exec1 E dr fr L H d (.store T a x) k = withV (op1 fr x) fun x => stS L H (szT E.P T) (op1 fr a) x fun L H => k (.v undef) L H) ∧
    (∀ (E : Env) (dr : Bool) (fr : List SV) (L : List Box) (H : List HO) (d : Option Nat) (k : SV → List Box → List HO → Prop) (T : TypeId) (n : Nat) (ps : List (Nat × Operand)), exec1 E dr fr L H d (.buildSlice T n ps.toArray) k = withVs (ps.map fun p => op1 fr p.2) fun xs => bsS (elT E.P T) n ((ps.map (·.1)).zip xs) L H k) ∧
    (∀ (E : Env) (dr : Bool) (fr : List SV) (L : List Box) (H : List HO) (d : Option Nat) (k : SV → List Box → List HO → Prop) (T : TypeId) (n c : Operand), exec1 E dr fr L H d (.makeSlice T n c) k = withV (op1 fr n) fun n => withV (op1 fr c) fun c => mkS (elT E.P T) n c L H k) ∧
    (∀ (E : Env) (dr : Bool) (fr : List SV) (L : List Box) (H : List HO) (d : Option Nat) (k : SV → List Box → List HO → Prop) (f : Operand) (as : List Operand) (ts : Array TypeId), exec1 E dr fr L H d (.call ⟨.value f, as.toArray, ts⟩) k = withVs (as.map (op1 fr)) fun args => invS E dr (op1 fr f) args L H k) ∧
    (∀ (E : Env) (dr : Bool) (fr : List SV) (L : List Box) (H : List HO) (d : Option Nat) (k : SV → List Box → List HO → Prop) (x : Operand) (T : TypeId), exec1 E dr fr L H d (.call ⟨.builtin .len, #[x], #[T]⟩) k = ((slT E.P T).isSome = true ∧ withV (op1 fr x) fun x => lenS x fun s => k s L H)) ∧
    (∀ (E : Env) (dr : Bool) (fr : List SV) (L : List Box) (H : List HO) (d : Option Nat) (k : SV → List Box → List HO → Prop) (x : Operand) (T : TypeId), exec1 E dr fr L H d (.call ⟨.builtin .cap, #[x], #[T]⟩) k = ((slT E.P T).isSome = true ∧ withV (op1 fr x) fun x => capS x fun s => k s L H)) ∧
    (∀ (E : Env) (dr : Bool) (fr : List SV) (L : List Box) (H : List HO) (d : Option Nat) (k : SV → List Box → List HO → Prop) (x y : Operand) (ts : Array TypeId), exec1 E dr fr L H d (.call ⟨.builtin .max, #[x, y], ts⟩) k = withV (op1 fr x) fun x => withV (op1 fr y) fun y => mmS true x y fun s => k s L H) ∧
    (∀ (E : Env) (dr : Bool) (fr : List SV) (L : List Box) (H : List HO) (d : Option Nat) (k : SV → List Box → List HO → Prop) (x y : Operand) (ts : Array TypeId), exec1 E dr fr L H d (.call ⟨.builtin .min, #[x, y], ts⟩) k = withV (op1 fr x) fun x => withV (op1 fr y) fun y => mmS false x y fun s => k s L H) ∧
    (∀ (E : Env) (dr : Bool) (fr : List SV) (L : List Box) (H : List HO) (d : Option Nat) (k : SV → List Box → List HO → Prop) (s x : Operand) (T T' : TypeId), exec1 E dr fr L H d (.call ⟨.builtin .append, #[s, x], #[T, T']⟩) k = (T' = T ∧ withV (op1 fr s) fun s => withV (op1 fr x) fun x => app1 (elT E.P T) E.w0 s x H fun v H => k (.v v) L H)) ∧
    (∀ (w0 : Base) (e : TypeId × Nat × List Value × Nat) (s x : Value) (H : List HO) (K : Value → List HO → Prop), app1 (some e) w0 s x H K = hold (AppOb w0 (some e) s x H K) ⟨0⟩) :=
  ⟨@r120, @r121, @r122, @r123, @r124, @r125, @r126, @r127, @r128, @r129, @r130, @r131, @r132, @r133, @r134, @r135, @r136, @r137, @r138, @r139, @r140, @r141, @r142, @r143, @r144, @r145, @r146, @r147, @r148, @r149, @r150, @r151, @r152, @r153, @r154, @r155, @r156, @r157, @r158, @r159⟩
theorem sx4 :
    (∀ (K : SV → Prop) (k1 k2 k : IntKind) (n : Int), cv1 (some k1) (some k2) (.int k n) K = (k1 = k ∧ K (.v (.int k2 (k2.wrap n))))) ∧
    (∀ (K : SV → Prop) (a b : SV), pickS (.b true) a b K = K a) ∧
    (∀ (K : SV → Prop) (a b : SV), pickS (.b false) a b K = K b) ∧
    (∀ (K : SV → Prop) (t p q : Bool), pickS (.v (.bool t)) (.v (.bool p)) (.v (.bool q)) K = K (.v (.bool (bif t then p else q)))) ∧
    (∀ (K : SV → Prop) (t p q : Bool), pickS (.v (.bool t)) (.v (.bool p)) (.b q) K = K (.v (.bool (bif t then p else q)))) ∧
    (∀ (K : SV → Prop) (t p q : Bool), pickS (.v (.bool t)) (.b p) (.v (.bool q)) K = K (.v (.bool (bif t then p else q)))) ∧
    (∀ (K : SV → Prop) (t p q : Bool), pickS (.v (.bool t)) (.b p) (.b q) K = K (.v (.bool (bif t then p else q)))) ∧
    (∀ (K : SV → Prop) (j o : Nat), ncS (.p j o) K = K (.p j o)) ∧
    (∀ (K : SV → Prop) (a : Addr), ncS (.v (.pointer (some a))) K = K (.v (.pointer (some a)))) ∧
    (∀ (K : SV → Prop) (f : Nat) (x y : Array Value), ncS (.v (.func (.func f) x y)) K = K (.v (.func (.func f) x y))) ∧
    (∀ (K : SV → Prop) (f : Nat) (x y : Array Value), ncS (.v (.func (.yield f) x y)) K = K (.v (.func (.yield f) x y))) ∧
    (∀ (w0 : Base) (L : List Box) (H : List HO) (k : Option Nat) (K : SV → Prop) (j o : Nat), ldS w0 L H (some k) (.p j o) K = (j < L.length ∧ ldBox (boxAt L j) o k K)) ∧
    (∀ (w0 : Base) (L : List Box) (H : List HO) (k : Option Nat) (K : SV → Prop) (a : Addr), ldS w0 L H (some k) (.v (.pointer (some a))) K = hold (LdOb w0 H a k K) ⟨0⟩) ∧
    (∀ (K : SV → Prop) (cs : List Value) (o : Nat), ldBox cs o none K = ldb1 (cs[o]?) K) ∧
    (∀ (K : SV → Prop) (v : Value), ldb1 (some v) K = K (.v v)) ∧
    (∀ (K : SV → Prop) (cs : List Value) (o n : Nat), ldBox cs o (some n) K = (o + n ≤ cs.length ∧ K (.v (.agg ((cs.drop o).take n).toArray)))) ∧
    (∀ (P : Program) (o : BinOp) (T : TypeId) (k k' : IntKind) (x y : Int) (K : SV → Prop), binS P o T (.int k x) (.int k' y) K = (k = k' ∧ binI o k x y K)) ∧
    (∀ (k : IntKind) (x y : Int) (K : SV → Prop), binI .add k x y K = K (.v (.int k (k.wrap (x + y))))) ∧
    (∀ (k : IntKind) (x y : Int) (K : SV → Prop), binI .sub k x y K = K (.v (.int k (k.wrap (x - y))))) ∧
    (∀ (k : IntKind) (x y : Int) (K : SV → Prop), binI .mul k x y K = K (.v (.int k (k.wrap (x * y))))) ∧
    (∀ (k : IntKind) (x y : Int) (K : SV → Prop), binI .quo k x y K = (y ≠ 0 ∧ K (.v (.int k (k.wrap (x.tdiv y)))))) ∧
    (∀ (k : IntKind) (x y : Int) (K : SV → Prop), binI .rem k x y K = (y ≠ 0 ∧ K (.v (.int k (x.tmod y))))) ∧
    (∀ (k : IntKind) (x y : Int) (K : SV → Prop), binI .shl k x y K = (0 ≤ y ∧ K (.v (.int k (k.wrap (x * 2 ^ (min y.toNat k.bits))))))) ∧
    (∀ (k : IntKind) (x y : Int) (K : SV → Prop), binI .shr k x y K = (0 ≤ y ∧ K (.v (.int k (x.fdiv (2 ^ (min y.toNat k.bits))))))) ∧
    (∀ (k : IntKind) (x y : Int) (K : SV → Prop), binI .and k x y K = K (.v (.int k (bitS .and k x y)))) ∧
    (∀ (k : IntKind) (x y : Int) (K : SV → Prop), binI .or k x y K = K (.v (.int k (bitS .or k x y)))) ∧
    (∀ (k : IntKind) (x y : Int) (K : SV → Prop), binI .xor k x y K = K (.v (.int k (bitS .xor k x y)))) ∧
    (∀ (k : IntKind) (x y : Int) (K : SV → Prop), binI .andNot k x y K = K (.v (.int k (bitS .andNot k x y)))) ∧
    (∀ (k : IntKind) (x y : Int) (K : SV → Prop), binI .eql k x y K = K (.v (.bool (x == y)))) ∧
    (∀ (k : IntKind) (x y : Int) (K : SV → Prop), binI .neq k x y K = K (.v (.bool (x != y)))) ∧
    (∀ (k : IntKind) (x y : Int) (K : SV → Prop), binI .lss k x y K = K (.v (.bool (decide (x < y))))) ∧
    (∀ (k : IntKind) (x y : Int) (K : SV → Prop), binI .leq k x y K = K (.v (.bool (decide (x ≤ y))))) ∧
    (∀ (k : IntKind) (x y : Int) (K : SV → Prop), binI .gtr k x y K = K (.v (.bool (decide (x > y))))) ∧
    (∀ (k : IntKind) (x y : Int) (K : SV → Prop), binI .geq k x y K = K (.v (.bool (decide (x ≥ y))))) ∧
    (∀ (P : Program) (T : TypeId) (a b : Bool) (K : SV → Prop), binS P .eql T (.bool a) (.bool b) K = (kdT P T = some 1 ∧ K (.v (.bool (a == b))))) ∧
    (∀ (P : Program) (T : TypeId) (a b : Bool) (K : SV → Prop), binS P .neq T (.bool a) (.bool b) K = (kdT P T = some 1 ∧ K (.v (.bool (!(a == b)))))) ∧
    (∀ (P : Program) (T : TypeId) (a : Option Addr) (n m n' m' : Nat) (K : SV → Prop), binS P .eql T (.slice a n m) (.slice none n' m') K = (kdT P T = some 2 ∧ K (.v (.bool a.isNone)))) ∧
    (∀ (P : Program) (T : TypeId) (a : Option Addr) (n m n' m' : Nat) (K : SV → Prop), binS P .neq T (.slice a n m) (.slice none n' m') K = (kdT P T = some 2 ∧ K (.v (.bool (!a.isNone))))) ∧
    (∀ (P : Program) (T : TypeId) (xs ys : Array Value) (K : SV → Prop), binS P .eql T (.agg xs) (.agg ys) K = ∃ r, EqAgg P T xs.toList ys.toList r ∧ K (.v (.bool r))) ∧
    (∀ (P : Program) (T : TypeId) (xs ys : Array Value) (K : SV → Prop), binS P .neq T (.agg xs) (.agg ys) K = ∃ r, EqAgg P T xs.toList ys.toList r ∧ K (.v (.bool (!r)))) :=
  ⟨@r160, @r161, @r162, @r163, @r164, @r165, @r166, @r167, @r168, @r169, @r170, @r171, @r172, @r173, @r174, @r175, @r176, @r177, @r178, @r179, @r180, @r181, @r182, @r183, @r184, @r185, @r186, @r187, @r188, @r189, @r190, @r191, @r192, @r193, @r194, @r195, @r196, @r197, @r198, @r199⟩
theorem sx5 :
    (∀ (K : SV → Prop) (t : Bool), unS .not (.b t) K = K (.b !t)) ∧
    (∀ (K : SV → Prop) (t : Bool), unS .not (.v (.bool t)) K = K (.v (.bool !t))) ∧
    (∀ (K : SV → Prop) (k : IntKind) (n : Int), unS .neg (.v (.int k n)) K = K (.v (.int k (k.wrap (0 - n))))) ∧
    (∀ (K : SV → Prop) (n j o : Nat), faS (some n) (.p j o) K = K (.p j (o + n))) ∧
    (∀ (K : SV → Prop) (n : Nat) (a : Addr), faS (some n) (.v (.pointer (some a))) K = K (.v (.pointer (some (a.add n))))) ∧
    (∀ (K : SV → Prop) (o : Nat) (k : Option Nat) (cs : Array Value), fldS (some (o, k)) (.agg cs) K = partS cs.toList o k K) ∧
    (∀ (K : SV → Prop) (cs : List Value) (o : Nat), partS cs o none K = ldb1 (cs[o]?) K) ∧
    (∀ (K : SV → Prop) (cs : List Value) (o n : Nat), partS cs o (some n) K = K (.v (.agg ((cs.drop o).take n).toArray))) ∧
    (∀ (ki : IntKind) (i : Int) (K : SV → Prop) (e sz len cap : Nat) (a : Option Addr) (ar : Option (Nat × Nat × Option Nat)), ixS (some (e, sz)) ar (.v (.slice a len cap)) (.int ki i) K = (0 ≤ i ∧ i < len ∧ ∃ ad, a = some ad ∧ K (.v (.pointer (some (ad.add (i.toNat * sz))))))) ∧
    (∀ (ki : IntKind) (i : Int) (K : SV → Prop) (n sz j o : Nat) (k : Option Nat), ixS none (some (n, sz, k)) (.p j o) (.int ki i) K = (0 ≤ i ∧ i < n ∧ K (.p j (o + i.toNat * sz)))) ∧
    (∀ (ki : IntKind) (i : Int) (K : SV → Prop) (n sz : Nat) (k : Option Nat) (a : Addr), ixS none (some (n, sz, k)) (.v (.pointer (some a))) (.int ki i) K = (0 ≤ i ∧ i < n ∧ K (.v (.pointer (some (a.add (i.toNat * sz))))))) ∧
    (∀ (ki : IntKind) (i : Int) (K : SV → Prop) (n sz : Nat) (k : Option Nat) (cs : Array Value), idxS (some (n, sz, k)) (.agg cs) (.int ki i) K = (0 ≤ i ∧ i < n ∧ partS cs.toList (i.toNat * sz) k K)) ∧
    (∀ (K : SV → Prop) (vs : Array Value) (i : Nat), extS (.tuple vs) i K = ldb1 (vs.toList[i]?) K) ∧
    (∀ (d y : Nat) (K : Nat → Prop), bndS none d y K = K d) ∧
    (∀ (d y : Nat) (K : Nat → Prop) (k : IntKind) (i : Int), bndS (some (.int k i)) d y K = (0 ≤ i ∧ i ≤ y ∧ K i.toNat)) ∧
    (∀ (K : SV → Prop) (e sz len cap : Nat) (a : Option Addr) (lo hi mx : Option Value), slS (some (e, sz)) (.slice a len cap) lo hi mx K = bndS mx cap cap fun m => (mx.isSome = true → hi.isSome = true) ∧ bndS hi len m fun h => bndS lo 0 h fun l => K (.v (.slice (if m = l then a else a.map (·.add (l * sz))) (h - l) (m - l)))) ∧
    (∀ (K : SV → Prop) (a : Option Addr) (n m : Nat), lenS (.slice a n m) K = K (.v (.int .i64 n))) ∧
    (∀ (K : SV → Prop) (a : Option Addr) (n m : Nat), capS (.slice a n m) K = K (.v (.int .i64 m))) ∧
    (∀ (K : SV → Prop) (k k' : IntKind) (a b : Int), mmS true (.int k a) (.int k' b) K = K (.v (.int k (max a b)))) ∧
    (∀ (K : SV → Prop) (k k' : IntKind) (a b : Int), mmS false (.int k a) (.int k' b) K = K (.v (.int k (min a b)))) ∧
    (∀ (pl : List (Nat × Nat)) (z : List Value) (ps : List (Nat × Value)) (K : SV → Prop), bldS (some pl) (some z) ps K = bld1 (fillS pl z ps) K) ∧
    (∀ (K : SV → Prop) (cs : List Value), bld1 (some cs) K = K (.v (.agg cs.toArray))) ∧
    (∀ (pl : List (Nat × Nat)) (cs : List Value), fillS pl cs [] = some cs) ∧
    (∀ (pl : List (Nat × Nat)) (cs : List Value) (i : Nat) (v : Value) (r : List (Nat × Value)), fillS pl cs ((i, v) :: r) = fil1 (pl[i]?) pl cs (vcells v) r) ∧
    (∀ (o n : Nat) (pl : List (Nat × Nat)) (cs vs : List Value) (r : List (Nat × Value)), fil1 (some (o, n)) pl cs vs r = if vs.length = n ∧ o + n ≤ cs.length then fillS pl (cs.take o ++ vs ++ cs.drop (o + n)) r else none) ∧
    (∀ (k : IntKind) (n : Int), vcells (.int k n) = [.int k n]) ∧
    (∀ (k : IntKind) (n : Int), Value.oneCell' (.int k n) = true) ∧
    (∀ (t : Bool), vcells (.bool t) = [.bool t]) ∧
    (∀ (t : Bool), Value.oneCell' (.bool t) = true) ∧
    (∀ (a : Option Addr) (n m : Nat), vcells (.slice a n m) = [.slice a n m]) ∧
    (∀ (a : Option Addr) (n m : Nat), Value.oneCell' (.slice a n m) = true) ∧
    (∀ (s : ByteArray), vcells (.string s) = [.string s]) ∧
    (∀ (s : ByteArray), Value.oneCell' (.string s) = true) ∧
    (∀ (a : Option Addr), vcells (.pointer a) = [.pointer a]) ∧
    (∀ (a : Option Addr), Value.oneCell' (.pointer a) = true) ∧
    (∀ (a : Option Nat), vcells (.map a) = [.map a]) ∧
    (∀ (a : Option Nat), Value.oneCell' (.map a) = true) ∧
    (∀ (f : Go.Fn) (a b : Array Value), vcells (.func f a b) = [.func f a b]) ∧
    (∀ (f : Go.Fn) (a b : Array Value), Value.oneCell' (.func f a b) = true) ∧
    (vcells .nilFunc = [.nilFunc]) :=
  ⟨@r200, @r201, @r202, @r203, @r204, @r205, @r206, @r207, @r208, @r209, @r210, @r211, @r212, @r213, @r214, @r215, @r216, @r217, @r218, @r219, @r220, @r221, @r222, @r223, @r224, @r225, @r226, @r227, @r228, @r229, @r230, @r231, @r232, @r233, @r234, @r235, @r236, @r237, @r238, @r239⟩
theorem sx6 :
    (Value.oneCell' .nilFunc = true) ∧
    (∀ (l : List Value), vcells (.agg l.toArray) = l) ∧
    (∀ (E : Env) (T : TypeId) (cs : List Value) (L : List Box) (H : List HO) (k : SV → List Box → List HO → Prop) (d : Nat), newBox E (some d) T cs L H k = nb1 (inRe d E.re) T cs L H k) ∧
    (∀ (d : Nat), inRe d [] = false) ∧
    (∀ (d e : Nat) (l : List Nat), inRe d (e :: l) = bif d == e then true else inRe d l) ∧
    (∀ (T : TypeId) (cs : List Value) (L : List Box) (H : List HO) (k : SV → List Box → List HO → Prop), nb1 true T cs L H k = ∀ b, k (.v (.pointer (some ⟨b, 0, none⟩))) L (.cells b T cs :: H)) ∧
    (∀ (T : TypeId) (cs : List Value) (L : List Box) (H : List HO) (k : SV → List Box → List HO → Prop), nb1 false T cs L H k = k (.p L.length 0) (L ++ [(T, cs)]) H) ∧
    (∀ (E : Env) (T : TypeId) (d : Option Nat) (cs : List Value) (L : List Box) (H : List HO) (k : SV → List Box → List HO → Prop), allocS E d T (some cs) L H k = newBox E d T cs L H k) ∧
    (∀ (L : List Box) (H : List HO) (n : Option Nat) (x : Value) (K : List Box → List HO → Prop) (j o : Nat), stS L H n (.p j o) x K = (n = some (vcells x).length ∧ (vcells x).all (·.oneCell') = true ∧ j < L.length ∧ o + (vcells x).length ≤ (boxAt L j).length ∧ K (lset L j ((boxAt L j).take o ++ vcells x ++ (boxAt L j).drop (o + (vcells x).length))) H)) ∧
    (∀ (L : List Box) (H : List HO) (n : Option Nat) (x : Value) (K : List Box → List HO → Prop) (a : Addr), stS L H n (.v (.pointer (some a))) x K = (n = some (vcells x).length ∧ (vcells x).all (·.oneCell') = true ∧ wr1 (vcells x) H a fun H => K L H)) ∧
    (∀ (x : Value) (xs : List Value) (H : List HO) (a : Addr) (K : List HO → Prop), wr1 (x :: xs) H a K = hold (WrOb H a (x :: xs) K) ⟨0⟩) ∧
    (∀ (e sz bytes : Nat) (z : List Value) (ki kj : IntKind) (n c : Int) (L : List Box) (H : List HO) (k : SV → List Box → List HO → Prop), mkS (some (e, sz, z, bytes)) (.int ki n) (.int kj c) L H k = (0 ≤ n ∧ n ≤ c ∧ c * bytes ≤ 140737488355328 ∧ ∀ b, k (.v (.slice (some ⟨b, 0, none⟩) n.toNat c.toNat)) L (.row (.slice (some ⟨b, 0, none⟩) n.toNat c.toNat) e sz (zerosL n.toNat z) :: H))) ∧
    (∀ (e sz bytes : Nat) (z : List Value) (n : Nat) (ps : List (Nat × Value)) (L : List Box) (H : List HO) (k : SV → List Box → List HO → Prop), bsS (some (e, sz, z, bytes)) n ps L H k = (n * sz ≤ 16777216 ∧ bs1 (fillS (slotsL n 0 sz) (zersL n z) ps) fun cs => ∀ b, k (.v (.slice (some ⟨b, 0, none⟩) n n)) L (.row (.slice (some ⟨b, 0, none⟩) n n) e sz cs :: H))) ∧
    (∀ (i sz : Nat), slotsL 0 i sz = []) ∧
    (∀ (n i sz : Nat), slotsL (n + 1) i sz = (i * sz, sz) :: slotsL n (i + 1) sz) ∧
    (∀ (z : List Value), zersL 0 z = []) ∧
    (∀ (n : Nat) (z : List Value), zersL (n + 1) z = z ++ zersL n z) ∧
    (∀ (cs : List Value) (K : List Value → Prop), bs1 (some cs) K = K cs) ∧
    (∀ (E : Env) (dr : Bool) (args : List Value) (L : List Box) (H : List HO) (k : SV → List Box → List HO → Prop) (g : Nat) (first cap : List Value), invS E dr (.v (.func (.func g) first.toArray cap.toArray)) args L H k = (CallT E.P g ∧ call1 (E.det g (first ++ args ++ cap)) E dr g (first ++ args ++ cap) L H k)) ∧
    (∀ (E : Env) (dr : Bool) (args : List Value) (L : List Box) (H : List HO) (k : SV → List Box → List HO → Prop) (l : Nat) (first cap : List Value), invS E dr (.v (.func (.yield l) first.toArray cap.toArray)) args L H k = yld1 (first ++ args) E dr l L H k) ∧
    (∀ (E : Env) (dr : Bool) (L : List Box) (H : List HO) (k : SV → List Box → List HO → Prop) (l : Nat) (a b : Value), yld1 [a, b] E dr l L H k = hold (CallOb E.P E.w0 dr (.yield l) [a, b] H fun v H => k (.v v) L H) ⟨0⟩) ∧
    (∀ (E : Env) (dr : Bool) (L : List Box) (H : List HO) (k : SV → List Box → List HO → Prop) (l : Nat) (a : Value), yld1 [a] E dr l L H k = hold (CallOb E.P E.w0 dr (.yield l) [a] H fun v H => k (.v v) L H) ⟨0⟩) ∧
    (∀ (E : Env) (dr : Bool) (args : List Value) (L : List Box) (H : List HO) (k : SV → List Box → List HO → Prop) (g : Nat) (v : Value), call1 (some v) E dr g args L H k = k (.v v) L H) ∧
    (∀ (E : Env) (dr : Bool) (args : List Value) (L : List Box) (H : List HO) (k : SV → List Box → List HO → Prop) (g : Nat), call1 none E dr g args L H k = hold (CallOb E.P E.w0 dr (.fn g) args H fun v H => k (.v v) L H) ⟨0⟩) ∧
    (∀ (E : Env) (fr : List SV) (L : List Box) (H : List HO) (K : List Value → Prop), resK E [] fr L H K = K []) ∧
    (∀ (E : Env) (rs : List ResultVar) (fr : List SV) (L : List Box) (H : List HO) (K : List Value → Prop) (t : Nat), resK E (.tmp t :: rs) fr L H K = withV (fget fr t) fun x => resK E rs fr L H fun xs => K (x :: xs)) ∧
    (∀ (E : Env) (rs : List ResultVar) (fr : List SV) (L : List Box) (H : List HO) (K : List Value → Prop) (a T : Nat), resK E (.cell a T :: rs) fr L H K = ldS E.w0 L H (ldT E.P T) (fget fr a) fun s => withV s fun x => resK E rs fr L H fun xs => K (x :: xs)) ∧
    (∀ (x : Value), tupV [x] = x) ∧
    (tupV [] = .tuple #[]) ∧
    (∀ (x y : Value), tupV [x, y] = .tuple #[x, y]) ∧
    (∀ (x y z : Value), tupV [x, y, z] = .tuple #[x, y, z]) ∧
    (∀ (args : List Value) (n : Nat), initF args n = args.map SV.v ++ List.replicate (n - args.length) (.v undef)) :=
  ⟨@r240, @r241, @r242, @r243, @r244, @r245, @r246, @r247, @r248, @r249, @r250, @r251, @r252, @r253, @r254, @r255, @r256, @r257, @r258, @r259, @r260, @r261, @r262, @r263, @r264, @r265, @r266, @r267, @r268, @r269, @r270, @r271⟩
theorem ev3_hold : (∀ (p : List SV → List Box → List HO → Prop) (t : TagF p) (fr : List SV) (L : List Box) (H : List HO), ev3 p t fr L H = hold (p fr L H) ⟨0⟩) ∧ (∀ (p : List SV → List Box → List HO → Prop) (t : TagF p) (fr : List SV) (L : List Box) (H : List HO), ev2 p t fr L H = p fr L H) := ⟨fun _ _ _ _ _ => rfl, fun _ _ _ _ _ => rfl⟩

end Go.SX
