/- A part of a proof: the symbolic walk and what it shows of single functions. -/
import Derived.Test.YtpfbpelkodlljaaSxV13
import Derived.Test.YtpfbpelkodlljaaSxY
set_option linter.all false
namespace Go.Proofs.Ytpfbpelkodlljaa
open Go.RowKit Go.SX Go.ChangeShapes Go.WideShapes Go.ChangeAt
set_option maxRecDepth 4000

theorem own0 : ownKnob Try.prog.godebug = none := by kernel_rfl
theorem laidOut0 : laidOutB Try.prog = true := by kernel_rfl

theorem flat_int : flat Try.prog 4 3 = some [.int .i64] := by kernel_rfl

theorem agg_of {w : World} {base : Nat} {t : TypeId} {v : Value} {fs : Array Field} (hu : Try.prog.underlying t = some (.struct fs)) (h : Value.okWide Try.prog w .any base t v) : ∃ cs, v = .agg cs := by
  unfold Value.okWide at h
  rw [hu] at h
  obtain ⟨cs, h, _⟩ := h
  exact ⟨cs, h⟩

theorem leaves5 {P : Program} {w : World} {vs : List Value} (h : Lvs P w [.int .i64, .int .i64, .int .i64, .int .i64, .int .i64] vs) : ∃ a b c d e, vs = [I a, I b, I c, I d, I e] := by
  cases h with | int _ h => cases h with | int _ h => cases h with | int _ h => cases h with | int _ h => cases h with | int _ h => cases h with | nil => exact ⟨_, _, _, _, _, rfl⟩

theorem flat_train : flat Try.prog 4 34 = some [.slice 43] := by kernel_rfl
theorem flat_towed : flat Try.prog 4 43 = some [.int .i64, .int .i64, .int .i64, .int .i64, .int .i64] := by kernel_rfl
theorem cells_towed : Try.prog.cellsOf 43 = 5 := by kernel_rfl
theorem flat_worse : flat Try.prog 4 36 = some [.int .i64, .int .i64, .int .i64, .int .i64, .int .i64] := by kernel_rfl

theorem train_of {H : Type} {enc : TypeId × Value → H} {w : World} {base : Nat} {v : Value} {d : DataW H} {ps : List MemPlace} (h : Value.okWide Try.prog w .any base 34 v) (hd : DataW.Trod enc Try.prog w 0 (fun _ => true) true 34 v d ps) : ∃ s us, v = .agg #[s] ∧ Sl w s 5 (twcs us) := by
  obtain ⟨cs, rfl⟩ := agg_of Try.underlying34 h
  have hl := lvs_of_Trod hd 4 flat_train
  rw [show (Value.agg cs).cells.toList = cs.toList from rfl] at hl
  generalize hcs : cs.toList = l at hl
  cases hl with
  | slice xss hl hc hm hs h1 hx r =>
    cases r
    rename_i a len cap
    obtain ⟨us, hu, _⟩ := cat_of (f := twc) (xss := xss) fun xs hxs => by
      obtain ⟨a, b, c, d, e, hl⟩ := leaves5 (hx xs hxs 4 _ flat_towed)
      exact ⟨⟨a, b, c, d, e⟩, hl⟩
    refine ⟨_, us, by rw [show cs = cs.toList.toArray by simp, hcs], ?_⟩
    rw [cells_towed, hu] at hs
    exact hs

theorem worse_of {H : Type} {enc : TypeId × Value → H} {w : World} {base : Nat} {v : Value} {d : DataW H} {ps : List MemPlace} (h : Value.okWide Try.prog w .any base 36 v) (hd : DataW.Trod enc Try.prog w 0 (fun _ => true) true 36 v d ps) : ∃ a b c d e, v = .agg #[I a, I b, I c, I d, I e] := by
  obtain ⟨cs, rfl⟩ := agg_of Try.underlying36 h
  obtain ⟨a, b, c, d, e, hl⟩ := leaves5 (lvs_of_Trod hd 4 flat_worse)
  exact ⟨a, b, c, d, e, by rw [show cs = cs.toList.toArray by simp, show cs.toList = _ from hl]⟩

theorem law_calls {f : Nat} {fn : Func} {s : ChangeSpec} {H : Type} {enc : TypeId × Value → H} {W : World} {args : Array Value} {ds gs : List (DataW H)} {before : List MemPlace} {b : TypeId}
    (hts : fn.params.toList.all (fun t => Try.prog.readableRec t && decide (t < Try.prog.types.size)) = true) (hr : fn.resultTypes = #[b]) (hb : Try.prog.underlying b = some .bool) (hv : s.vars = [])
    (hW : DataW.Whole enc Try.prog fn.params.toList s.vars false W args.toList ds gs before) (h1 : (s.fn H (ds ++ gs)).results = [.lit (.bool true)]) (h2 : (s.fn H (ds ++ gs)).args = ds) (h3 : (s.fn H (ds ++ gs)).vars = [])
    (h : SX.Fn Try.prog f args.toList W (fun _ => False) fun r _ => r = .bool true) : Calls Try.prog f args W fun e W' => ∃ v, e = .returned v ∧ s.post enc Try.prog fn false true false false W args v W' := by
  unfold SX.Fn at h
  rw [Array.toArray_toList] at h
  refine Calls.mono h fun e W' hh => ?_
  obtain ⟨v, N, he, hk, _, _, _, rfl⟩ := hh
  exact ⟨_, he, law_post laidOut0 hts hr hb hv hW h1 h2 h3 hk⟩

end Go.Proofs.Ytpfbpelkodlljaa
