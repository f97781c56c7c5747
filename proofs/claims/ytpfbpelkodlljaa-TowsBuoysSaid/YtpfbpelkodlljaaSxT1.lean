/- The tables of the program, read once. Written by gen_tab.py. -/
import Derived.Test.YtpfbpelkodlljaaRows
import Derived.Test.YtpfbpelkodlljaaSxQ
set_option linter.all false
namespace Go.Proofs.Ytpfbpelkodlljaa
open Go.RowKit Go.SX
set_option maxRecDepth 4000

theorem tt0 :
    (ldT Try.prog 0 = some none) ∧
    (zeroT Try.prog 0 = some [.tuple #[]]) ∧
    (szT Try.prog 0 = some 1) ∧
    (ldT Try.prog 1 = some none) ∧
    (zeroT Try.prog 1 = some [.nilFunc]) ∧
    (kdT Try.prog 1 = some 3) ∧
    (szT Try.prog 1 = some 1) ∧
    (ldT Try.prog 2 = some none) ∧
    (zeroT Try.prog 2 = some [.int .i64 0]) ∧
    (kdT Try.prog 2 = some 0) ∧
    (intT Try.prog 2 = some .i64) ∧
    (szT Try.prog 2 = some 1) ∧
    (ldT Try.prog 3 = some none) ∧
    (zeroT Try.prog 3 = some [.int .i64 0]) ∧
    (kdT Try.prog 3 = some 0) ∧
    (intT Try.prog 3 = some .i64) ∧
    (szT Try.prog 3 = some 1) ∧
    (ldT Try.prog 4 = some none) ∧
    (zeroT Try.prog 4 = some [.bool false]) ∧
    (kdT Try.prog 4 = some 1) ∧
    (szT Try.prog 4 = some 1) ∧
    (ldT Try.prog 5 = some none) ∧
    (zeroT Try.prog 5 = some [.int .u8 0]) ∧
    (kdT Try.prog 5 = some 0) ∧
    (intT Try.prog 5 = some .u8) ∧
    (szT Try.prog 5 = some 1) ∧
    (ldT Try.prog 6 = some none) ∧
    (zeroT Try.prog 6 = some [.int .u8 0]) ∧
    (kdT Try.prog 6 = some 0) ∧
    (intT Try.prog 6 = some .u8) ∧
    (szT Try.prog 6 = some 1) ∧
    (ldT Try.prog 7 = some (some 4)) ∧
    (zeroT Try.prog 7 = some [.int .i64 0, .int .i64 0, .bool false, .int .u8 0]) ∧
    (placesT Try.prog 7 = some [(0, 1), (1, 1), (2, 1), (3, 1)]) ∧
    (szT Try.prog 7 = some 4) ∧
    (offT Try.prog 7 0 = some 0) ∧
    (fldT Try.prog 7 0 = some (0, none)) ∧
    (offT Try.prog 7 1 = some 1) ∧
    (fldT Try.prog 7 1 = some (1, none)) ∧
    (offT Try.prog 7 2 = some 2) ∧
    (fldT Try.prog 7 2 = some (2, none)) ∧
    (offT Try.prog 7 3 = some 3) ∧
    (fldT Try.prog 7 3 = some (3, none)) ∧
    (ldT Try.prog 8 = some (some 4)) ∧
    (zeroT Try.prog 8 = some [.int .i64 0, .int .i64 0, .bool false, .int .u8 0]) ∧
    (placesT Try.prog 8 = some [(0, 1), (1, 1), (2, 1), (3, 1)]) ∧
    (szT Try.prog 8 = some 4) ∧
    (offT Try.prog 8 0 = some 0) ∧
    (fldT Try.prog 8 0 = some (0, none)) ∧
    (offT Try.prog 8 1 = some 1) ∧
    (fldT Try.prog 8 1 = some (1, none)) ∧
    (offT Try.prog 8 2 = some 2) ∧
    (fldT Try.prog 8 2 = some (2, none)) ∧
    (offT Try.prog 8 3 = some 3) ∧
    (fldT Try.prog 8 3 = some (3, none)) ∧
    (ldT Try.prog 9 = some none) ∧
    (zeroT Try.prog 9 = some [.string ⟨#[]⟩]) ∧
    (kdT Try.prog 9 = some 5) ∧
    (szT Try.prog 9 = some 1) ∧
    (ldT Try.prog 10 = some none) :=
  ⟨by kernel_rfl, by kernel_rfl, by kernel_rfl, by kernel_rfl, by kernel_rfl, by kernel_rfl, by kernel_rfl, by kernel_rfl, by kernel_rfl, by kernel_rfl, by kernel_rfl, by kernel_rfl, by kernel_rfl, by kernel_rfl, by kernel_rfl, by kernel_rfl, by kernel_rfl, by kernel_rfl, by kernel_rfl, by kernel_rfl, by kernel_rfl, by kernel_rfl, by kernel_rfl, by kernel_rfl, by kernel_rfl, by kernel_rfl, by kernel_rfl, by kernel_rfl, by kernel_rfl, by kernel_rfl, by kernel_rfl, by kernel_rfl, by kernel_rfl, by kernel_rfl, by kernel_rfl, by kernel_rfl, by kernel_rfl, by kernel_rfl, by kernel_rfl, by kernel_rfl, by kernel_rfl, by kernel_rfl, by kernel_rfl, by kernel_rfl, by kernel_rfl, by kernel_rfl, by kernel_rfl, by kernel_rfl, by kernel_rfl, by kernel_rfl, by kernel_rfl, by kernel_rfl, by kernel_rfl, by kernel_rfl, by kernel_rfl, by kernel_rfl, by kernel_rfl, by kernel_rfl, by kernel_rfl, by kernel_rfl⟩

theorem tt1 :
    (zeroT Try.prog 10 = some [.string ⟨#[]⟩]) ∧
    (kdT Try.prog 10 = some 5) ∧
    (szT Try.prog 10 = some 1) ∧
    (ldT Try.prog 11 = some none) ∧
    (zeroT Try.prog 11 = some [.string ⟨#[]⟩]) ∧
    (kdT Try.prog 11 = some 5) ∧
    (szT Try.prog 11 = some 1) ∧
    (ldT Try.prog 12 = some none) ∧
    (zeroT Try.prog 12 = some [.int .u64 0]) ∧
    (kdT Try.prog 12 = some 0) ∧
    (intT Try.prog 12 = some .u64) ∧
    (szT Try.prog 12 = some 1) ∧
    (ldT Try.prog 13 = some (some 2)) ∧
    (zeroT Try.prog 13 = some [.string ⟨#[]⟩, .int .u64 0]) ∧
    (placesT Try.prog 13 = some [(0, 1), (1, 1)]) ∧
    (szT Try.prog 13 = some 2) ∧
    (offT Try.prog 13 0 = some 0) ∧
    (fldT Try.prog 13 0 = some (0, none)) ∧
    (offT Try.prog 13 1 = some 1) ∧
    (fldT Try.prog 13 1 = some (1, none)) ∧
    (ldT Try.prog 14 = some (some 2)) ∧
    (zeroT Try.prog 14 = some [.string ⟨#[]⟩, .int .u64 0]) ∧
    (placesT Try.prog 14 = some [(0, 1), (1, 1)]) ∧
    (szT Try.prog 14 = some 2) ∧
    (offT Try.prog 14 0 = some 0) ∧
    (fldT Try.prog 14 0 = some (0, none)) ∧
    (offT Try.prog 14 1 = some 1) ∧
    (fldT Try.prog 14 1 = some (1, none)) ∧
    (ldT Try.prog 15 = some none) ∧
    (zeroT Try.prog 15 = some [.pointer none]) ∧
    (szT Try.prog 15 = some 1) ∧
    (ldT Try.prog 16 = some none) ∧
    (zeroT Try.prog 16 = some [.pointer none]) ∧
    (szT Try.prog 16 = some 1) ∧
    (ldT Try.prog 17 = some none) ∧
    (zeroT Try.prog 17 = some [.pointer none]) ∧
    (szT Try.prog 17 = some 1) ∧
    (ldT Try.prog 18 = some (some 1)) ∧
    (zeroT Try.prog 18 = some [.pointer none]) ∧
    (placesT Try.prog 18 = some [(0, 1)]) ∧
    (szT Try.prog 18 = some 1) ∧
    (offT Try.prog 18 0 = some 0) ∧
    (fldT Try.prog 18 0 = some (0, none)) ∧
    (ldT Try.prog 19 = some (some 1)) ∧
    (zeroT Try.prog 19 = some [.pointer none]) ∧
    (placesT Try.prog 19 = some [(0, 1)]) ∧
    (szT Try.prog 19 = some 1) ∧
    (offT Try.prog 19 0 = some 0) ∧
    (fldT Try.prog 19 0 = some (0, none)) ∧
    (ldT Try.prog 20 = some none) ∧
    (zeroT Try.prog 20 = some [.nilIface]) ∧
    (szT Try.prog 20 = some 1) ∧
    (ldT Try.prog 21 = some none) ∧
    (zeroT Try.prog 21 = some [.int .i32 0]) ∧
    (kdT Try.prog 21 = some 0) ∧
    (intT Try.prog 21 = some .i32) ∧
    (szT Try.prog 21 = some 1) ∧
    (ldT Try.prog 22 = some (some 2)) ∧
    (zeroT Try.prog 22 = some [.int .i64 0, .int .i64 0]) ∧
    (placesT Try.prog 22 = some [(0, 1), (1, 1)]) :=
  ⟨by kernel_rfl, by kernel_rfl, by kernel_rfl, by kernel_rfl, by kernel_rfl, by kernel_rfl, by kernel_rfl, by kernel_rfl, by kernel_rfl, by kernel_rfl, by kernel_rfl, by kernel_rfl, by kernel_rfl, by kernel_rfl, by kernel_rfl, by kernel_rfl, by kernel_rfl, by kernel_rfl, by kernel_rfl, by kernel_rfl, by kernel_rfl, by kernel_rfl, by kernel_rfl, by kernel_rfl, by kernel_rfl, by kernel_rfl, by kernel_rfl, by kernel_rfl, by kernel_rfl, by kernel_rfl, by kernel_rfl, by kernel_rfl, by kernel_rfl, by kernel_rfl, by kernel_rfl, by kernel_rfl, by kernel_rfl, by kernel_rfl, by kernel_rfl, by kernel_rfl, by kernel_rfl, by kernel_rfl, by kernel_rfl, by kernel_rfl, by kernel_rfl, by kernel_rfl, by kernel_rfl, by kernel_rfl, by kernel_rfl, by kernel_rfl, by kernel_rfl, by kernel_rfl, by kernel_rfl, by kernel_rfl, by kernel_rfl, by kernel_rfl, by kernel_rfl, by kernel_rfl, by kernel_rfl, by kernel_rfl⟩

theorem tt2 :
    (szT Try.prog 22 = some 2) ∧
    (offT Try.prog 22 0 = some 0) ∧
    (fldT Try.prog 22 0 = some (0, none)) ∧
    (offT Try.prog 22 1 = some 1) ∧
    (fldT Try.prog 22 1 = some (1, none)) ∧
    (ldT Try.prog 23 = some (some 2)) ∧
    (zeroT Try.prog 23 = some [.int .i64 0, .int .i64 0]) ∧
    (placesT Try.prog 23 = some [(0, 1), (1, 1)]) ∧
    (szT Try.prog 23 = some 2) ∧
    (offT Try.prog 23 0 = some 0) ∧
    (fldT Try.prog 23 0 = some (0, none)) ∧
    (offT Try.prog 23 1 = some 1) ∧
    (fldT Try.prog 23 1 = some (1, none)) ∧
    (ldT Try.prog 24 = some (some 6)) ∧
    (zeroT Try.prog 24 = some [.int .i64 0, .int .i64 0, .int .i64 0, .int .i64 0, .int .i64 0, .int .i64 0]) ∧
    (placesT Try.prog 24 = some [(0, 1), (1, 1), (2, 1), (3, 1), (4, 2)]) ∧
    (szT Try.prog 24 = some 6) ∧
    (offT Try.prog 24 0 = some 0) ∧
    (fldT Try.prog 24 0 = some (0, none)) ∧
    (offT Try.prog 24 1 = some 1) ∧
    (fldT Try.prog 24 1 = some (1, none)) ∧
    (offT Try.prog 24 2 = some 2) ∧
    (fldT Try.prog 24 2 = some (2, none)) ∧
    (offT Try.prog 24 3 = some 3) ∧
    (fldT Try.prog 24 3 = some (3, none)) ∧
    (offT Try.prog 24 4 = some 4) ∧
    (fldT Try.prog 24 4 = some (4, some 2)) ∧
    (ldT Try.prog 25 = some (some 6)) ∧
    (zeroT Try.prog 25 = some [.int .i64 0, .int .i64 0, .int .i64 0, .int .i64 0, .int .i64 0, .int .i64 0]) ∧
    (placesT Try.prog 25 = some [(0, 1), (1, 1), (2, 1), (3, 1), (4, 2)]) ∧
    (szT Try.prog 25 = some 6) ∧
    (offT Try.prog 25 0 = some 0) ∧
    (fldT Try.prog 25 0 = some (0, none)) ∧
    (offT Try.prog 25 1 = some 1) ∧
    (fldT Try.prog 25 1 = some (1, none)) ∧
    (offT Try.prog 25 2 = some 2) ∧
    (fldT Try.prog 25 2 = some (2, none)) ∧
    (offT Try.prog 25 3 = some 3) ∧
    (fldT Try.prog 25 3 = some (3, none)) ∧
    (offT Try.prog 25 4 = some 4) ∧
    (fldT Try.prog 25 4 = some (4, some 2)) ∧
    (ldT Try.prog 26 = some none) ∧
    (zeroT Try.prog 26 = some [.int .i64 0]) ∧
    (kdT Try.prog 26 = some 0) ∧
    (intT Try.prog 26 = some .i64) ∧
    (szT Try.prog 26 = some 1) ∧
    (ldT Try.prog 27 = some none) ∧
    (szT Try.prog 27 = some 1) ∧
    (ldT Try.prog 28 = some none) ∧
    (zeroT Try.prog 28 = some [.nilFunc]) ∧
    (kdT Try.prog 28 = some 3) ∧
    (szT Try.prog 28 = some 1) ∧
    (ldT Try.prog 29 = some none) ∧
    (zeroT Try.prog 29 = some [.nilFunc]) ∧
    (kdT Try.prog 29 = some 3) ∧
    (szT Try.prog 29 = some 1) ∧
    (ldT Try.prog 30 = some none) ∧
    (zeroT Try.prog 30 = some [.nilFunc]) ∧
    (kdT Try.prog 30 = some 3) ∧
    (szT Try.prog 30 = some 1) :=
  ⟨by kernel_rfl, by kernel_rfl, by kernel_rfl, by kernel_rfl, by kernel_rfl, by kernel_rfl, by kernel_rfl, by kernel_rfl, by kernel_rfl, by kernel_rfl, by kernel_rfl, by kernel_rfl, by kernel_rfl, by kernel_rfl, by kernel_rfl, by kernel_rfl, by kernel_rfl, by kernel_rfl, by kernel_rfl, by kernel_rfl, by kernel_rfl, by kernel_rfl, by kernel_rfl, by kernel_rfl, by kernel_rfl, by kernel_rfl, by kernel_rfl, by kernel_rfl, by kernel_rfl, by kernel_rfl, by kernel_rfl, by kernel_rfl, by kernel_rfl, by kernel_rfl, by kernel_rfl, by kernel_rfl, by kernel_rfl, by kernel_rfl, by kernel_rfl, by kernel_rfl, by kernel_rfl, by kernel_rfl, by kernel_rfl, by kernel_rfl, by kernel_rfl, by kernel_rfl, by kernel_rfl, by kernel_rfl, by kernel_rfl, by kernel_rfl, by kernel_rfl, by kernel_rfl, by kernel_rfl, by kernel_rfl, by kernel_rfl, by kernel_rfl, by kernel_rfl, by kernel_rfl, by kernel_rfl, by kernel_rfl⟩

theorem tt3 :
    (ldT Try.prog 31 = some none) ∧
    (zeroT Try.prog 31 = some [.nilFunc]) ∧
    (kdT Try.prog 31 = some 3) ∧
    (szT Try.prog 31 = some 1) ∧
    (ldT Try.prog 32 = some none) ∧
    (zeroT Try.prog 32 = some [.slice none 0 0]) ∧
    (slT Try.prog 32 = some (43, 5)) ∧
    (kdT Try.prog 32 = some 2) ∧
    (elT Try.prog 32 = some (43, 5, [.int .i64 0, .int .i64 0, .int .i64 0, .int .i64 0, .int .i64 0], 40)) ∧
    (szT Try.prog 32 = some 1) ∧
    (ldT Try.prog 33 = some (some 1)) ∧
    (zeroT Try.prog 33 = some [.slice none 0 0]) ∧
    (placesT Try.prog 33 = some [(0, 1)]) ∧
    (szT Try.prog 33 = some 1) ∧
    (offT Try.prog 33 0 = some 0) ∧
    (fldT Try.prog 33 0 = some (0, none)) ∧
    (ldT Try.prog 34 = some (some 1)) ∧
    (zeroT Try.prog 34 = some [.slice none 0 0]) ∧
    (placesT Try.prog 34 = some [(0, 1)]) ∧
    (szT Try.prog 34 = some 1) ∧
    (offT Try.prog 34 0 = some 0) ∧
    (fldT Try.prog 34 0 = some (0, none)) ∧
    (ldT Try.prog 35 = some (some 5)) ∧
    (zeroT Try.prog 35 = some [.int .i64 0, .int .i64 0, .int .i64 0, .int .i64 0, .int .i64 0]) ∧
    (placesT Try.prog 35 = some [(0, 1), (1, 1), (2, 1), (3, 1), (4, 1)]) ∧
    (szT Try.prog 35 = some 5) ∧
    (offT Try.prog 35 0 = some 0) ∧
    (fldT Try.prog 35 0 = some (0, none)) ∧
    (offT Try.prog 35 1 = some 1) ∧
    (fldT Try.prog 35 1 = some (1, none)) ∧
    (offT Try.prog 35 2 = some 2) ∧
    (fldT Try.prog 35 2 = some (2, none)) ∧
    (offT Try.prog 35 3 = some 3) ∧
    (fldT Try.prog 35 3 = some (3, none)) ∧
    (offT Try.prog 35 4 = some 4) ∧
    (fldT Try.prog 35 4 = some (4, none)) ∧
    (ldT Try.prog 36 = some (some 5)) ∧
    (zeroT Try.prog 36 = some [.int .i64 0, .int .i64 0, .int .i64 0, .int .i64 0, .int .i64 0]) ∧
    (placesT Try.prog 36 = some [(0, 1), (1, 1), (2, 1), (3, 1), (4, 1)]) ∧
    (szT Try.prog 36 = some 5) ∧
    (offT Try.prog 36 0 = some 0) ∧
    (fldT Try.prog 36 0 = some (0, none)) ∧
    (offT Try.prog 36 1 = some 1) ∧
    (fldT Try.prog 36 1 = some (1, none)) ∧
    (offT Try.prog 36 2 = some 2) ∧
    (fldT Try.prog 36 2 = some (2, none)) ∧
    (offT Try.prog 36 3 = some 3) ∧
    (fldT Try.prog 36 3 = some (3, none)) ∧
    (offT Try.prog 36 4 = some 4) ∧
    (fldT Try.prog 36 4 = some (4, none)) ∧
    (ldT Try.prog 37 = some none) ∧
    (zeroT Try.prog 37 = some [.nilFunc]) ∧
    (kdT Try.prog 37 = some 3) ∧
    (szT Try.prog 37 = some 1) ∧
    (ldT Try.prog 38 = some none) ∧
    (zeroT Try.prog 38 = some [.nilFunc]) ∧
    (kdT Try.prog 38 = some 3) ∧
    (szT Try.prog 38 = some 1) ∧
    (ldT Try.prog 39 = some none) ∧
    (zeroT Try.prog 39 = some [.nilFunc]) :=
  ⟨by kernel_rfl, by kernel_rfl, by kernel_rfl, by kernel_rfl, by kernel_rfl, by kernel_rfl, by kernel_rfl, by kernel_rfl, by kernel_rfl, by kernel_rfl, by kernel_rfl, by kernel_rfl, by kernel_rfl, by kernel_rfl, by kernel_rfl, by kernel_rfl, by kernel_rfl, by kernel_rfl, by kernel_rfl, by kernel_rfl, by kernel_rfl, by kernel_rfl, by kernel_rfl, by kernel_rfl, by kernel_rfl, by kernel_rfl, by kernel_rfl, by kernel_rfl, by kernel_rfl, by kernel_rfl, by kernel_rfl, by kernel_rfl, by kernel_rfl, by kernel_rfl, by kernel_rfl, by kernel_rfl, by kernel_rfl, by kernel_rfl, by kernel_rfl, by kernel_rfl, by kernel_rfl, by kernel_rfl, by kernel_rfl, by kernel_rfl, by kernel_rfl, by kernel_rfl, by kernel_rfl, by kernel_rfl, by kernel_rfl, by kernel_rfl, by kernel_rfl, by kernel_rfl, by kernel_rfl, by kernel_rfl, by kernel_rfl, by kernel_rfl, by kernel_rfl, by kernel_rfl, by kernel_rfl, by kernel_rfl⟩

theorem tt4 :
    (kdT Try.prog 39 = some 3) ∧
    (szT Try.prog 39 = some 1) ∧
    (ldT Try.prog 40 = some (some 3)) ∧
    (zeroT Try.prog 40 = some [.int .i64 0, .int .i64 0, .int .i64 0]) ∧
    (placesT Try.prog 40 = some [(0, 1), (1, 1), (2, 1)]) ∧
    (szT Try.prog 40 = some 3) ∧
    (offT Try.prog 40 0 = some 0) ∧
    (fldT Try.prog 40 0 = some (0, none)) ∧
    (offT Try.prog 40 1 = some 1) ∧
    (fldT Try.prog 40 1 = some (1, none)) ∧
    (offT Try.prog 40 2 = some 2) ∧
    (fldT Try.prog 40 2 = some (2, none)) ∧
    (ldT Try.prog 41 = some (some 3)) ∧
    (zeroT Try.prog 41 = some [.int .i64 0, .int .i64 0, .int .i64 0]) ∧
    (placesT Try.prog 41 = some [(0, 1), (1, 1), (2, 1)]) ∧
    (szT Try.prog 41 = some 3) ∧
    (offT Try.prog 41 0 = some 0) ∧
    (fldT Try.prog 41 0 = some (0, none)) ∧
    (offT Try.prog 41 1 = some 1) ∧
    (fldT Try.prog 41 1 = some (1, none)) ∧
    (offT Try.prog 41 2 = some 2) ∧
    (fldT Try.prog 41 2 = some (2, none)) ∧
    (ldT Try.prog 42 = some (some 5)) ∧
    (zeroT Try.prog 42 = some [.int .i64 0, .int .i64 0, .int .i64 0, .int .i64 0, .int .i64 0]) ∧
    (placesT Try.prog 42 = some [(0, 2), (2, 3)]) ∧
    (szT Try.prog 42 = some 5) ∧
    (offT Try.prog 42 0 = some 0) ∧
    (fldT Try.prog 42 0 = some (0, some 2)) ∧
    (offT Try.prog 42 1 = some 2) ∧
    (fldT Try.prog 42 1 = some (2, some 3)) ∧
    (ldT Try.prog 43 = some (some 5)) ∧
    (zeroT Try.prog 43 = some [.int .i64 0, .int .i64 0, .int .i64 0, .int .i64 0, .int .i64 0]) ∧
    (placesT Try.prog 43 = some [(0, 2), (2, 3)]) ∧
    (szT Try.prog 43 = some 5) ∧
    (offT Try.prog 43 0 = some 0) ∧
    (fldT Try.prog 43 0 = some (0, some 2)) ∧
    (offT Try.prog 43 1 = some 2) ∧
    (fldT Try.prog 43 1 = some (2, some 3)) ∧
    (ldT Try.prog 44 = some none) ∧
    (zeroT Try.prog 44 = some [.slice none 0 0]) ∧
    (slT Try.prog 44 = some (3, 1)) ∧
    (kdT Try.prog 44 = some 2) ∧
    (elT Try.prog 44 = some (3, 1, [.int .i64 0], 8)) ∧
    (szT Try.prog 44 = some 1) ∧
    (ldT Try.prog 45 = some none) ∧
    (szT Try.prog 45 = some 1) ∧
    (ldT Try.prog 46 = some none) ∧
    (zeroT Try.prog 46 = some [.nilFunc]) ∧
    (kdT Try.prog 46 = some 3) ∧
    (szT Try.prog 46 = some 1) ∧
    (ldT Try.prog 47 = some none) ∧
    (zeroT Try.prog 47 = some [.nilFunc]) ∧
    (kdT Try.prog 47 = some 3) ∧
    (szT Try.prog 47 = some 1) ∧
    (ldT Try.prog 48 = some none) ∧
    (zeroT Try.prog 48 = some [.nilFunc]) ∧
    (kdT Try.prog 48 = some 3) ∧
    (szT Try.prog 48 = some 1) ∧
    (ldT Try.prog 49 = some (some 5)) ∧
    (zeroT Try.prog 49 = some [.int .i64 0, .int .i64 0, .int .i64 0, .int .i64 0, .int .i64 0]) :=
  ⟨by kernel_rfl, by kernel_rfl, by kernel_rfl, by kernel_rfl, by kernel_rfl, by kernel_rfl, by kernel_rfl, by kernel_rfl, by kernel_rfl, by kernel_rfl, by kernel_rfl, by kernel_rfl, by kernel_rfl, by kernel_rfl, by kernel_rfl, by kernel_rfl, by kernel_rfl, by kernel_rfl, by kernel_rfl, by kernel_rfl, by kernel_rfl, by kernel_rfl, by kernel_rfl, by kernel_rfl, by kernel_rfl, by kernel_rfl, by kernel_rfl, by kernel_rfl, by kernel_rfl, by kernel_rfl, by kernel_rfl, by kernel_rfl, by kernel_rfl, by kernel_rfl, by kernel_rfl, by kernel_rfl, by kernel_rfl, by kernel_rfl, by kernel_rfl, by kernel_rfl, by kernel_rfl, by kernel_rfl, by kernel_rfl, by kernel_rfl, by kernel_rfl, by kernel_rfl, by kernel_rfl, by kernel_rfl, by kernel_rfl, by kernel_rfl, by kernel_rfl, by kernel_rfl, by kernel_rfl, by kernel_rfl, by kernel_rfl, by kernel_rfl, by kernel_rfl, by kernel_rfl, by kernel_rfl, by kernel_rfl⟩

theorem tt5 :
    (placesT Try.prog 49 = some [(0, 1), (1, 1), (2, 1), (3, 1), (4, 1)]) ∧
    (szT Try.prog 49 = some 5) ∧
    (offT Try.prog 49 0 = some 0) ∧
    (fldT Try.prog 49 0 = some (0, none)) ∧
    (offT Try.prog 49 1 = some 1) ∧
    (fldT Try.prog 49 1 = some (1, none)) ∧
    (offT Try.prog 49 2 = some 2) ∧
    (fldT Try.prog 49 2 = some (2, none)) ∧
    (offT Try.prog 49 3 = some 3) ∧
    (fldT Try.prog 49 3 = some (3, none)) ∧
    (offT Try.prog 49 4 = some 4) ∧
    (fldT Try.prog 49 4 = some (4, none)) ∧
    (ldT Try.prog 50 = some (some 5)) ∧
    (zeroT Try.prog 50 = some [.int .i64 0, .int .i64 0, .int .i64 0, .int .i64 0, .int .i64 0]) ∧
    (placesT Try.prog 50 = some [(0, 1), (1, 1), (2, 1), (3, 1), (4, 1)]) ∧
    (szT Try.prog 50 = some 5) ∧
    (offT Try.prog 50 0 = some 0) ∧
    (fldT Try.prog 50 0 = some (0, none)) ∧
    (offT Try.prog 50 1 = some 1) ∧
    (fldT Try.prog 50 1 = some (1, none)) ∧
    (offT Try.prog 50 2 = some 2) ∧
    (fldT Try.prog 50 2 = some (2, none)) ∧
    (offT Try.prog 50 3 = some 3) ∧
    (fldT Try.prog 50 3 = some (3, none)) ∧
    (offT Try.prog 50 4 = some 4) ∧
    (fldT Try.prog 50 4 = some (4, none)) ∧
    (ldT Try.prog 51 = some none) ∧
    (zeroT Try.prog 51 = some [.nilFunc]) ∧
    (kdT Try.prog 51 = some 3) ∧
    (szT Try.prog 51 = some 1) ∧
    (ldT Try.prog 52 = some none) ∧
    (zeroT Try.prog 52 = some [.nilFunc]) ∧
    (kdT Try.prog 52 = some 3) ∧
    (szT Try.prog 52 = some 1) ∧
    (ldT Try.prog 53 = some none) ∧
    (zeroT Try.prog 53 = some [.nilFunc]) ∧
    (kdT Try.prog 53 = some 3) ∧
    (szT Try.prog 53 = some 1) ∧
    (ldT Try.prog 54 = some none) ∧
    (zeroT Try.prog 54 = some [.nilFunc]) ∧
    (kdT Try.prog 54 = some 3) ∧
    (szT Try.prog 54 = some 1) ∧
    (ldT Try.prog 55 = some none) ∧
    (zeroT Try.prog 55 = some [.slice none 0 0]) ∧
    (slT Try.prog 55 = some (23, 2)) ∧
    (kdT Try.prog 55 = some 2) ∧
    (elT Try.prog 55 = some (23, 2, [.int .i64 0, .int .i64 0], 16)) ∧
    (szT Try.prog 55 = some 1) ∧
    (ldT Try.prog 56 = some none) ∧
    (szT Try.prog 56 = some 1) ∧
    (ldT Try.prog 57 = some none) ∧
    (zeroT Try.prog 57 = some [.nilFunc]) ∧
    (kdT Try.prog 57 = some 3) ∧
    (szT Try.prog 57 = some 1) ∧
    (ldT Try.prog 58 = some none) ∧
    (zeroT Try.prog 58 = some [.nilFunc]) ∧
    (kdT Try.prog 58 = some 3) ∧
    (szT Try.prog 58 = some 1) ∧
    (ldT Try.prog 59 = some none) ∧
    (zeroT Try.prog 59 = some [.nilFunc]) :=
  ⟨by kernel_rfl, by kernel_rfl, by kernel_rfl, by kernel_rfl, by kernel_rfl, by kernel_rfl, by kernel_rfl, by kernel_rfl, by kernel_rfl, by kernel_rfl, by kernel_rfl, by kernel_rfl, by kernel_rfl, by kernel_rfl, by kernel_rfl, by kernel_rfl, by kernel_rfl, by kernel_rfl, by kernel_rfl, by kernel_rfl, by kernel_rfl, by kernel_rfl, by kernel_rfl, by kernel_rfl, by kernel_rfl, by kernel_rfl, by kernel_rfl, by kernel_rfl, by kernel_rfl, by kernel_rfl, by kernel_rfl, by kernel_rfl, by kernel_rfl, by kernel_rfl, by kernel_rfl, by kernel_rfl, by kernel_rfl, by kernel_rfl, by kernel_rfl, by kernel_rfl, by kernel_rfl, by kernel_rfl, by kernel_rfl, by kernel_rfl, by kernel_rfl, by kernel_rfl, by kernel_rfl, by kernel_rfl, by kernel_rfl, by kernel_rfl, by kernel_rfl, by kernel_rfl, by kernel_rfl, by kernel_rfl, by kernel_rfl, by kernel_rfl, by kernel_rfl, by kernel_rfl, by kernel_rfl, by kernel_rfl⟩

theorem tt6 :
    (kdT Try.prog 59 = some 3) ∧
    (szT Try.prog 59 = some 1) ∧
    (ldT Try.prog 60 = some none) ∧
    (szT Try.prog 60 = some 1) ∧
    (ldT Try.prog 61 = some none) ∧
    (zeroT Try.prog 61 = some [.nilFunc]) ∧
    (kdT Try.prog 61 = some 3) ∧
    (szT Try.prog 61 = some 1) ∧
    (ldT Try.prog 62 = some none) ∧
    (zeroT Try.prog 62 = some [.nilFunc]) ∧
    (kdT Try.prog 62 = some 3) ∧
    (szT Try.prog 62 = some 1) ∧
    (ldT Try.prog 63 = some none) ∧
    (zeroT Try.prog 63 = some [.nilFunc]) ∧
    (kdT Try.prog 63 = some 3) ∧
    (szT Try.prog 63 = some 1) ∧
    (ldT Try.prog 64 = some none) ∧
    (zeroT Try.prog 64 = some [.nilFunc]) ∧
    (kdT Try.prog 64 = some 3) ∧
    (szT Try.prog 64 = some 1) ∧
    (ldT Try.prog 65 = some none) ∧
    (zeroT Try.prog 65 = some [.nilFunc]) ∧
    (kdT Try.prog 65 = some 3) ∧
    (szT Try.prog 65 = some 1) ∧
    (ldT Try.prog 66 = some (some 7)) ∧
    (zeroT Try.prog 66 = some [.int .i64 0, .int .i64 0, .int .i64 0, .int .i64 0, .int .i64 0, .int .i64 0, .int .i64 0]) ∧
    (placesT Try.prog 66 = some [(0, 6), (6, 1)]) ∧
    (szT Try.prog 66 = some 7) ∧
    (offT Try.prog 66 0 = some 0) ∧
    (fldT Try.prog 66 0 = some (0, some 6)) ∧
    (offT Try.prog 66 1 = some 6) ∧
    (fldT Try.prog 66 1 = some (6, none)) ∧
    (ldT Try.prog 67 = some (some 7)) ∧
    (zeroT Try.prog 67 = some [.int .i64 0, .int .i64 0, .int .i64 0, .int .i64 0, .int .i64 0, .int .i64 0, .int .i64 0]) ∧
    (placesT Try.prog 67 = some [(0, 6), (6, 1)]) ∧
    (szT Try.prog 67 = some 7) ∧
    (offT Try.prog 67 0 = some 0) ∧
    (fldT Try.prog 67 0 = some (0, some 6)) ∧
    (offT Try.prog 67 1 = some 6) ∧
    (fldT Try.prog 67 1 = some (6, none)) ∧
    (ldT Try.prog 68 = some none) ∧
    (szT Try.prog 68 = some 1) ∧
    (ldT Try.prog 69 = some none) ∧
    (zeroT Try.prog 69 = some [.nilFunc]) ∧
    (kdT Try.prog 69 = some 3) ∧
    (szT Try.prog 69 = some 1) ∧
    (ldT Try.prog 70 = some none) ∧
    (zeroT Try.prog 70 = some [.nilFunc]) ∧
    (kdT Try.prog 70 = some 3) ∧
    (szT Try.prog 70 = some 1) ∧
    (ldT Try.prog 71 = some none) ∧
    (zeroT Try.prog 71 = some [.nilFunc]) ∧
    (kdT Try.prog 71 = some 3) ∧
    (szT Try.prog 71 = some 1) ∧
    (ldT Try.prog 72 = some none) ∧
    (zeroT Try.prog 72 = some [.nilFunc]) ∧
    (kdT Try.prog 72 = some 3) ∧
    (szT Try.prog 72 = some 1) ∧
    (ldT Try.prog 73 = some none) ∧
    (zeroT Try.prog 73 = some [.nilFunc]) :=
  ⟨by kernel_rfl, by kernel_rfl, by kernel_rfl, by kernel_rfl, by kernel_rfl, by kernel_rfl, by kernel_rfl, by kernel_rfl, by kernel_rfl, by kernel_rfl, by kernel_rfl, by kernel_rfl, by kernel_rfl, by kernel_rfl, by kernel_rfl, by kernel_rfl, by kernel_rfl, by kernel_rfl, by kernel_rfl, by kernel_rfl, by kernel_rfl, by kernel_rfl, by kernel_rfl, by kernel_rfl, by kernel_rfl, by kernel_rfl, by kernel_rfl, by kernel_rfl, by kernel_rfl, by kernel_rfl, by kernel_rfl, by kernel_rfl, by kernel_rfl, by kernel_rfl, by kernel_rfl, by kernel_rfl, by kernel_rfl, by kernel_rfl, by kernel_rfl, by kernel_rfl, by kernel_rfl, by kernel_rfl, by kernel_rfl, by kernel_rfl, by kernel_rfl, by kernel_rfl, by kernel_rfl, by kernel_rfl, by kernel_rfl, by kernel_rfl, by kernel_rfl, by kernel_rfl, by kernel_rfl, by kernel_rfl, by kernel_rfl, by kernel_rfl, by kernel_rfl, by kernel_rfl, by kernel_rfl, by kernel_rfl⟩

theorem tt7 :
    (kdT Try.prog 73 = some 3) ∧
    (szT Try.prog 73 = some 1) ∧
    (ldT Try.prog 74 = some none) ∧
    (zeroT Try.prog 74 = some [.nilFunc]) ∧
    (kdT Try.prog 74 = some 3) ∧
    (szT Try.prog 74 = some 1) ∧
    (ldT Try.prog 75 = some (some 4)) ∧
    (zeroT Try.prog 75 = some [.int .i64 0, .int .i64 0, .int .i64 0, .int .i64 0]) ∧
    (placesT Try.prog 75 = some [(0, 1), (1, 1), (2, 1), (3, 1)]) ∧
    (szT Try.prog 75 = some 4) ∧
    (offT Try.prog 75 0 = some 0) ∧
    (fldT Try.prog 75 0 = some (0, none)) ∧
    (offT Try.prog 75 1 = some 1) ∧
    (fldT Try.prog 75 1 = some (1, none)) ∧
    (offT Try.prog 75 2 = some 2) ∧
    (fldT Try.prog 75 2 = some (2, none)) ∧
    (offT Try.prog 75 3 = some 3) ∧
    (fldT Try.prog 75 3 = some (3, none)) ∧
    (ldT Try.prog 76 = some (some 4)) ∧
    (zeroT Try.prog 76 = some [.int .i64 0, .int .i64 0, .int .i64 0, .int .i64 0]) ∧
    (placesT Try.prog 76 = some [(0, 1), (1, 1), (2, 1), (3, 1)]) ∧
    (szT Try.prog 76 = some 4) ∧
    (offT Try.prog 76 0 = some 0) ∧
    (fldT Try.prog 76 0 = some (0, none)) ∧
    (offT Try.prog 76 1 = some 1) ∧
    (fldT Try.prog 76 1 = some (1, none)) ∧
    (offT Try.prog 76 2 = some 2) ∧
    (fldT Try.prog 76 2 = some (2, none)) ∧
    (offT Try.prog 76 3 = some 3) ∧
    (fldT Try.prog 76 3 = some (3, none)) ∧
    (ldT Try.prog 77 = some none) ∧
    (szT Try.prog 77 = some 1) ∧
    (ldT Try.prog 78 = some none) ∧
    (zeroT Try.prog 78 = some [.nilFunc]) ∧
    (kdT Try.prog 78 = some 3) ∧
    (szT Try.prog 78 = some 1) ∧
    (ldT Try.prog 79 = some none) ∧
    (szT Try.prog 79 = some 1) ∧
    (ldT Try.prog 80 = some (some 1)) ∧
    (zeroT Try.prog 80 = some [.slice none 0 0]) ∧
    (placesT Try.prog 80 = some [(0, 1)]) ∧
    (szT Try.prog 80 = some 1) ∧
    (offT Try.prog 80 0 = some 0) ∧
    (fldT Try.prog 80 0 = some (0, some 1)) ∧
    (ldT Try.prog 81 = some (some 1)) ∧
    (zeroT Try.prog 81 = some [.slice none 0 0]) ∧
    (placesT Try.prog 81 = some [(0, 1)]) ∧
    (szT Try.prog 81 = some 1) ∧
    (offT Try.prog 81 0 = some 0) ∧
    (fldT Try.prog 81 0 = some (0, some 1)) ∧
    (ldT Try.prog 82 = some none) ∧
    (zeroT Try.prog 82 = some [.nilFunc]) ∧
    (kdT Try.prog 82 = some 3) ∧
    (szT Try.prog 82 = some 1) ∧
    (ldT Try.prog 83 = some none) ∧
    (zeroT Try.prog 83 = some [.nilFunc]) ∧
    (kdT Try.prog 83 = some 3) ∧
    (szT Try.prog 83 = some 1) ∧
    (ldT Try.prog 84 = some none) ∧
    (zeroT Try.prog 84 = some [.nilFunc]) :=
  ⟨by kernel_rfl, by kernel_rfl, by kernel_rfl, by kernel_rfl, by kernel_rfl, by kernel_rfl, by kernel_rfl, by kernel_rfl, by kernel_rfl, by kernel_rfl, by kernel_rfl, by kernel_rfl, by kernel_rfl, by kernel_rfl, by kernel_rfl, by kernel_rfl, by kernel_rfl, by kernel_rfl, by kernel_rfl, by kernel_rfl, by kernel_rfl, by kernel_rfl, by kernel_rfl, by kernel_rfl, by kernel_rfl, by kernel_rfl, by kernel_rfl, by kernel_rfl, by kernel_rfl, by kernel_rfl, by kernel_rfl, by kernel_rfl, by kernel_rfl, by kernel_rfl, by kernel_rfl, by kernel_rfl, by kernel_rfl, by kernel_rfl, by kernel_rfl, by kernel_rfl, by kernel_rfl, by kernel_rfl, by kernel_rfl, by kernel_rfl, by kernel_rfl, by kernel_rfl, by kernel_rfl, by kernel_rfl, by kernel_rfl, by kernel_rfl, by kernel_rfl, by kernel_rfl, by kernel_rfl, by kernel_rfl, by kernel_rfl, by kernel_rfl, by kernel_rfl, by kernel_rfl, by kernel_rfl, by kernel_rfl⟩

theorem tt8 :
    (kdT Try.prog 84 = some 3) ∧
    (szT Try.prog 84 = some 1) ∧
    (ldT Try.prog 85 = some none) ∧
    (zeroT Try.prog 85 = some [.nilFunc]) ∧
    (kdT Try.prog 85 = some 3) ∧
    (szT Try.prog 85 = some 1) ∧
    (ldT Try.prog 86 = some none) ∧
    (zeroT Try.prog 86 = some [.nilFunc]) ∧
    (kdT Try.prog 86 = some 3) ∧
    (szT Try.prog 86 = some 1) ∧
    (ldT Try.prog 87 = some none) ∧
    (zeroT Try.prog 87 = some [.nilFunc]) ∧
    (kdT Try.prog 87 = some 3) ∧
    (szT Try.prog 87 = some 1) ∧
    (ldT Try.prog 88 = some none) ∧
    (zeroT Try.prog 88 = some [.nilFunc]) ∧
    (kdT Try.prog 88 = some 3) ∧
    (szT Try.prog 88 = some 1) ∧
    (ldT Try.prog 89 = some none) ∧
    (zeroT Try.prog 89 = some [.nilFunc]) ∧
    (kdT Try.prog 89 = some 3) ∧
    (szT Try.prog 89 = some 1) ∧
    (ldT Try.prog 90 = some none) ∧
    (zeroT Try.prog 90 = some [.slice none 0 0]) ∧
    (slT Try.prog 90 = some (4, 1)) ∧
    (kdT Try.prog 90 = some 2) ∧
    (elT Try.prog 90 = some (4, 1, [.bool false], 1)) ∧
    (szT Try.prog 90 = some 1) ∧
    (ldT Try.prog 91 = some none) ∧
    (zeroT Try.prog 91 = some [.nilFunc]) ∧
    (kdT Try.prog 91 = some 3) ∧
    (szT Try.prog 91 = some 1) ∧
    (ldT Try.prog 92 = some none) ∧
    (zeroT Try.prog 92 = some [.nilFunc]) ∧
    (kdT Try.prog 92 = some 3) ∧
    (szT Try.prog 92 = some 1) ∧
    (ldT Try.prog 93 = some none) ∧
    (zeroT Try.prog 93 = some [.nilFunc]) ∧
    (kdT Try.prog 93 = some 3) ∧
    (szT Try.prog 93 = some 1) ∧
    (ldT Try.prog 94 = some none) ∧
    (szT Try.prog 94 = some 1) ∧
    (ldT Try.prog 95 = some none) ∧
    (zeroT Try.prog 95 = some [.nilFunc]) ∧
    (kdT Try.prog 95 = some 3) ∧
    (szT Try.prog 95 = some 1) ∧
    (ldT Try.prog 96 = some none) ∧
    (zeroT Try.prog 96 = some [.nilFunc]) ∧
    (kdT Try.prog 96 = some 3) ∧
    (szT Try.prog 96 = some 1) ∧
    (ldT Try.prog 97 = some none) ∧
    (szT Try.prog 97 = some 1) ∧
    (ldT Try.prog 98 = some none) ∧
    (zeroT Try.prog 98 = some [.nilFunc]) ∧
    (kdT Try.prog 98 = some 3) ∧
    (szT Try.prog 98 = some 1) ∧
    (ldT Try.prog 99 = some none) ∧
    (zeroT Try.prog 99 = some [.nilFunc]) ∧
    (kdT Try.prog 99 = some 3) ∧
    (szT Try.prog 99 = some 1) :=
  ⟨by kernel_rfl, by kernel_rfl, by kernel_rfl, by kernel_rfl, by kernel_rfl, by kernel_rfl, by kernel_rfl, by kernel_rfl, by kernel_rfl, by kernel_rfl, by kernel_rfl, by kernel_rfl, by kernel_rfl, by kernel_rfl, by kernel_rfl, by kernel_rfl, by kernel_rfl, by kernel_rfl, by kernel_rfl, by kernel_rfl, by kernel_rfl, by kernel_rfl, by kernel_rfl, by kernel_rfl, by kernel_rfl, by kernel_rfl, by kernel_rfl, by kernel_rfl, by kernel_rfl, by kernel_rfl, by kernel_rfl, by kernel_rfl, by kernel_rfl, by kernel_rfl, by kernel_rfl, by kernel_rfl, by kernel_rfl, by kernel_rfl, by kernel_rfl, by kernel_rfl, by kernel_rfl, by kernel_rfl, by kernel_rfl, by kernel_rfl, by kernel_rfl, by kernel_rfl, by kernel_rfl, by kernel_rfl, by kernel_rfl, by kernel_rfl, by kernel_rfl, by kernel_rfl, by kernel_rfl, by kernel_rfl, by kernel_rfl, by kernel_rfl, by kernel_rfl, by kernel_rfl, by kernel_rfl, by kernel_rfl⟩

theorem tt9 :
    (ldT Try.prog 100 = some none) ∧
    (zeroT Try.prog 100 = some [.nilFunc]) ∧
    (kdT Try.prog 100 = some 3) ∧
    (szT Try.prog 100 = some 1) ∧
    (ldT Try.prog 101 = some none) ∧
    (zeroT Try.prog 101 = some [.nilFunc]) ∧
    (kdT Try.prog 101 = some 3) ∧
    (szT Try.prog 101 = some 1) ∧
    (ldT Try.prog 102 = some none) ∧
    (zeroT Try.prog 102 = some [.nilFunc]) ∧
    (kdT Try.prog 102 = some 3) ∧
    (szT Try.prog 102 = some 1) ∧
    (ldT Try.prog 103 = some none) ∧
    (zeroT Try.prog 103 = some [.nilFunc]) ∧
    (kdT Try.prog 103 = some 3) ∧
    (szT Try.prog 103 = some 1) ∧
    (ldT Try.prog 104 = some none) ∧
    (zeroT Try.prog 104 = some [.nilFunc]) ∧
    (kdT Try.prog 104 = some 3) ∧
    (szT Try.prog 104 = some 1) ∧
    (ldT Try.prog 105 = some none) ∧
    (zeroT Try.prog 105 = some [.nilFunc]) ∧
    (kdT Try.prog 105 = some 3) ∧
    (szT Try.prog 105 = some 1) ∧
    (ldT Try.prog 106 = some (some 4)) ∧
    (zeroT Try.prog 106 = some [.pointer none, .pointer none, .pointer none, .string ⟨#[]⟩]) ∧
    (placesT Try.prog 106 = some [(0, 1), (1, 1), (2, 1), (3, 1)]) ∧
    (szT Try.prog 106 = some 4) ∧
    (offT Try.prog 106 0 = some 0) ∧
    (fldT Try.prog 106 0 = some (0, none)) ∧
    (offT Try.prog 106 1 = some 1) ∧
    (fldT Try.prog 106 1 = some (1, none)) ∧
    (offT Try.prog 106 2 = some 2) ∧
    (fldT Try.prog 106 2 = some (2, none)) ∧
    (offT Try.prog 106 3 = some 3) ∧
    (fldT Try.prog 106 3 = some (3, none)) ∧
    (ldT Try.prog 107 = some (some 4)) ∧
    (zeroT Try.prog 107 = some [.pointer none, .pointer none, .pointer none, .string ⟨#[]⟩]) ∧
    (placesT Try.prog 107 = some [(0, 1), (1, 1), (2, 1), (3, 1)]) ∧
    (szT Try.prog 107 = some 4) ∧
    (offT Try.prog 107 0 = some 0) ∧
    (fldT Try.prog 107 0 = some (0, none)) ∧
    (offT Try.prog 107 1 = some 1) ∧
    (fldT Try.prog 107 1 = some (1, none)) ∧
    (offT Try.prog 107 2 = some 2) ∧
    (fldT Try.prog 107 2 = some (2, none)) ∧
    (offT Try.prog 107 3 = some 3) ∧
    (fldT Try.prog 107 3 = some (3, none)) ∧
    (ldT Try.prog 108 = some (some 0)) ∧
    (zeroT Try.prog 108 = some []) ∧
    (arT Try.prog 108 = some (0, 1, none)) ∧
    (szT Try.prog 108 = some 0) ∧
    (ldT Try.prog 109 = some (some 0)) ∧
    (zeroT Try.prog 109 = some []) ∧
    (placesT Try.prog 109 = some [(0, 0)]) ∧
    (szT Try.prog 109 = some 0) ∧
    (fldT Try.prog 109 0 = some (0, some 0)) ∧
    (ldT Try.prog 110 = some (some 0)) ∧
    (zeroT Try.prog 110 = some []) ∧
    (placesT Try.prog 110 = some [(0, 0)]) :=
  ⟨by kernel_rfl, by kernel_rfl, by kernel_rfl, by kernel_rfl, by kernel_rfl, by kernel_rfl, by kernel_rfl, by kernel_rfl, by kernel_rfl, by kernel_rfl, by kernel_rfl, by kernel_rfl, by kernel_rfl, by kernel_rfl, by kernel_rfl, by kernel_rfl, by kernel_rfl, by kernel_rfl, by kernel_rfl, by kernel_rfl, by kernel_rfl, by kernel_rfl, by kernel_rfl, by kernel_rfl, by kernel_rfl, by kernel_rfl, by kernel_rfl, by kernel_rfl, by kernel_rfl, by kernel_rfl, by kernel_rfl, by kernel_rfl, by kernel_rfl, by kernel_rfl, by kernel_rfl, by kernel_rfl, by kernel_rfl, by kernel_rfl, by kernel_rfl, by kernel_rfl, by kernel_rfl, by kernel_rfl, by kernel_rfl, by kernel_rfl, by kernel_rfl, by kernel_rfl, by kernel_rfl, by kernel_rfl, by kernel_rfl, by kernel_rfl, by kernel_rfl, by kernel_rfl, by kernel_rfl, by kernel_rfl, by kernel_rfl, by kernel_rfl, by kernel_rfl, by kernel_rfl, by kernel_rfl, by kernel_rfl⟩

theorem tt10 :
    (szT Try.prog 110 = some 0) ∧
    (fldT Try.prog 110 0 = some (0, some 0)) ∧
    (ldT Try.prog 111 = some none) ∧
    (zeroT Try.prog 111 = some [.nilFunc]) ∧
    (kdT Try.prog 111 = some 3) ∧
    (szT Try.prog 111 = some 1) ∧
    (ldT Try.prog 112 = some none) ∧
    (zeroT Try.prog 112 = some [.int .u32 0]) ∧
    (kdT Try.prog 112 = some 0) ∧
    (intT Try.prog 112 = some .u32) ∧
    (szT Try.prog 112 = some 1) ∧
    (ldT Try.prog 113 = some none) ∧
    (zeroT Try.prog 113 = some [.int .u8 0]) ∧
    (kdT Try.prog 113 = some 0) ∧
    (intT Try.prog 113 = some .u8) ∧
    (szT Try.prog 113 = some 1) ∧
    (ldT Try.prog 114 = some none) ∧
    (zeroT Try.prog 114 = some [.int .u8 0]) ∧
    (kdT Try.prog 114 = some 0) ∧
    (intT Try.prog 114 = some .u8) ∧
    (szT Try.prog 114 = some 1) ∧
    (ldT Try.prog 115 = some none) ∧
    (zeroT Try.prog 115 = some [.nilFunc]) ∧
    (kdT Try.prog 115 = some 3) ∧
    (szT Try.prog 115 = some 1) ∧
    (ldT Try.prog 116 = some none) ∧
    (zeroT Try.prog 116 = some [.pointer none]) ∧
    (szT Try.prog 116 = some 1) ∧
    (ldT Try.prog 117 = some none) ∧
    (zeroT Try.prog 117 = some [.int .i32 0]) ∧
    (kdT Try.prog 117 = some 0) ∧
    (intT Try.prog 117 = some .i32) ∧
    (szT Try.prog 117 = some 1) ∧
    (ldT Try.prog 118 = some none) ∧
    (zeroT Try.prog 118 = some [.int .i32 0]) ∧
    (kdT Try.prog 118 = some 0) ∧
    (intT Try.prog 118 = some .i32) ∧
    (szT Try.prog 118 = some 1) ∧
    (ldT Try.prog 119 = some (some 11)) ∧
    (zeroT Try.prog 119 = some [.int .u64 0, .int .u64 0, .int .u32 0, .int .u8 0, .int .u8 0, .int .u8 0, .int .u8 0, .nilFunc, .pointer none, .int .i32 0, .int .i32 0]) ∧
    (placesT Try.prog 119 = some [(0, 1), (1, 1), (2, 1), (3, 1), (4, 1), (5, 1), (6, 1), (7, 1), (8, 1), (9, 1), (10, 1)]) ∧
    (szT Try.prog 119 = some 11) ∧
    (offT Try.prog 119 0 = some 0) ∧
    (fldT Try.prog 119 0 = some (0, none)) ∧
    (offT Try.prog 119 1 = some 1) ∧
    (fldT Try.prog 119 1 = some (1, none)) ∧
    (offT Try.prog 119 2 = some 2) ∧
    (fldT Try.prog 119 2 = some (2, none)) ∧
    (offT Try.prog 119 3 = some 3) ∧
    (fldT Try.prog 119 3 = some (3, none)) ∧
    (offT Try.prog 119 4 = some 4) ∧
    (fldT Try.prog 119 4 = some (4, none)) ∧
    (offT Try.prog 119 5 = some 5) ∧
    (fldT Try.prog 119 5 = some (5, none)) ∧
    (offT Try.prog 119 6 = some 6) ∧
    (fldT Try.prog 119 6 = some (6, none)) ∧
    (offT Try.prog 119 7 = some 7) ∧
    (fldT Try.prog 119 7 = some (7, none)) ∧
    (offT Try.prog 119 8 = some 8) ∧
    (fldT Try.prog 119 8 = some (8, none)) :=
  ⟨by kernel_rfl, by kernel_rfl, by kernel_rfl, by kernel_rfl, by kernel_rfl, by kernel_rfl, by kernel_rfl, by kernel_rfl, by kernel_rfl, by kernel_rfl, by kernel_rfl, by kernel_rfl, by kernel_rfl, by kernel_rfl, by kernel_rfl, by kernel_rfl, by kernel_rfl, by kernel_rfl, by kernel_rfl, by kernel_rfl, by kernel_rfl, by kernel_rfl, by kernel_rfl, by kernel_rfl, by kernel_rfl, by kernel_rfl, by kernel_rfl, by kernel_rfl, by kernel_rfl, by kernel_rfl, by kernel_rfl, by kernel_rfl, by kernel_rfl, by kernel_rfl, by kernel_rfl, by kernel_rfl, by kernel_rfl, by kernel_rfl, by kernel_rfl, by kernel_rfl, by kernel_rfl, by kernel_rfl, by kernel_rfl, by kernel_rfl, by kernel_rfl, by kernel_rfl, by kernel_rfl, by kernel_rfl, by kernel_rfl, by kernel_rfl, by kernel_rfl, by kernel_rfl, by kernel_rfl, by kernel_rfl, by kernel_rfl, by kernel_rfl, by kernel_rfl, by kernel_rfl, by kernel_rfl, by kernel_rfl⟩

theorem tt11 :
    (offT Try.prog 119 9 = some 9) ∧
    (fldT Try.prog 119 9 = some (9, none)) ∧
    (offT Try.prog 119 10 = some 10) ∧
    (fldT Try.prog 119 10 = some (10, none)) ∧
    (ldT Try.prog 120 = some (some 11)) ∧
    (zeroT Try.prog 120 = some [.int .u64 0, .int .u64 0, .int .u32 0, .int .u8 0, .int .u8 0, .int .u8 0, .int .u8 0, .nilFunc, .pointer none, .int .i32 0, .int .i32 0]) ∧
    (placesT Try.prog 120 = some [(0, 1), (1, 1), (2, 1), (3, 1), (4, 1), (5, 1), (6, 1), (7, 1), (8, 1), (9, 1), (10, 1)]) ∧
    (szT Try.prog 120 = some 11) ∧
    (offT Try.prog 120 0 = some 0) ∧
    (fldT Try.prog 120 0 = some (0, none)) ∧
    (offT Try.prog 120 1 = some 1) ∧
    (fldT Try.prog 120 1 = some (1, none)) ∧
    (offT Try.prog 120 2 = some 2) ∧
    (fldT Try.prog 120 2 = some (2, none)) ∧
    (offT Try.prog 120 3 = some 3) ∧
    (fldT Try.prog 120 3 = some (3, none)) ∧
    (offT Try.prog 120 4 = some 4) ∧
    (fldT Try.prog 120 4 = some (4, none)) ∧
    (offT Try.prog 120 5 = some 5) ∧
    (fldT Try.prog 120 5 = some (5, none)) ∧
    (offT Try.prog 120 6 = some 6) ∧
    (fldT Try.prog 120 6 = some (6, none)) ∧
    (offT Try.prog 120 7 = some 7) ∧
    (fldT Try.prog 120 7 = some (7, none)) ∧
    (offT Try.prog 120 8 = some 8) ∧
    (fldT Try.prog 120 8 = some (8, none)) ∧
    (offT Try.prog 120 9 = some 9) ∧
    (fldT Try.prog 120 9 = some (9, none)) ∧
    (offT Try.prog 120 10 = some 10) ∧
    (fldT Try.prog 120 10 = some (10, none)) ∧
    (ldT Try.prog 121 = some none) ∧
    (zeroT Try.prog 121 = some [.pointer none]) ∧
    (szT Try.prog 121 = some 1) ∧
    (arT Try.prog 32 = none) ∧
    (arT Try.prog 44 = none) ∧
    (arT Try.prog 55 = none) ∧
    (arT Try.prog 90 = none) ∧
    (slT Try.prog 108 = none) :=
  ⟨by kernel_rfl, by kernel_rfl, by kernel_rfl, by kernel_rfl, by kernel_rfl, by kernel_rfl, by kernel_rfl, by kernel_rfl, by kernel_rfl, by kernel_rfl, by kernel_rfl, by kernel_rfl, by kernel_rfl, by kernel_rfl, by kernel_rfl, by kernel_rfl, by kernel_rfl, by kernel_rfl, by kernel_rfl, by kernel_rfl, by kernel_rfl, by kernel_rfl, by kernel_rfl, by kernel_rfl, by kernel_rfl, by kernel_rfl, by kernel_rfl, by kernel_rfl, by kernel_rfl, by kernel_rfl, by kernel_rfl, by kernel_rfl, by kernel_rfl, by kernel_rfl, by kernel_rfl, by kernel_rfl, by kernel_rfl, by kernel_rfl⟩

theorem tc0 :
    (CallT Try.prog 3 = True) ∧
    (CallT Try.prog 4 = True) ∧
    (CallT Try.prog 5 = True) ∧
    (CallT Try.prog 6 = True) ∧
    (CallT Try.prog 7 = True) ∧
    (CallT Try.prog 8 = True) ∧
    (CallT Try.prog 9 = True) ∧
    (CallT Try.prog 10 = True) ∧
    (CallT Try.prog 11 = True) ∧
    (CallT Try.prog 12 = True) ∧
    (CallT Try.prog 13 = True) ∧
    (CallT Try.prog 14 = True) ∧
    (CallT Try.prog 15 = True) ∧
    (CallT Try.prog 16 = True) ∧
    (CallT Try.prog 17 = True) ∧
    (CallT Try.prog 18 = True) ∧
    (CallT Try.prog 19 = True) ∧
    (CallT Try.prog 20 = True) ∧
    (CallT Try.prog 21 = True) ∧
    (CallT Try.prog 22 = True) ∧
    (CallT Try.prog 23 = True) ∧
    (CallT Try.prog 24 = True) ∧
    (CallT Try.prog 25 = True) ∧
    (CallT Try.prog 26 = True) ∧
    (CallT Try.prog 27 = True) ∧
    (CallT Try.prog 28 = True) ∧
    (CallT Try.prog 29 = True) ∧
    (CallT Try.prog 30 = True) ∧
    (CallT Try.prog 31 = True) ∧
    (CallT Try.prog 32 = True) ∧
    (CallT Try.prog 33 = True) ∧
    (CallT Try.prog 34 = True) ∧
    (CallT Try.prog 35 = True) ∧
    (CallT Try.prog 36 = True) ∧
    (CallT Try.prog 37 = True) ∧
    (CallT Try.prog 38 = True) ∧
    (CallT Try.prog 39 = True) ∧
    (CallT Try.prog 40 = True) ∧
    (CallT Try.prog 41 = True) ∧
    (CallT Try.prog 42 = True) :=
  ⟨eq_true Try.call3, eq_true Try.call4, eq_true Try.call5, eq_true Try.call6, eq_true Try.call7, eq_true Try.call8, eq_true Try.call9, eq_true Try.call10, eq_true Try.call11, eq_true Try.call12, eq_true Try.call13, eq_true Try.call14, eq_true Try.call15, eq_true Try.call16, eq_true Try.call17, eq_true Try.call18, eq_true Try.call19, eq_true Try.call20, eq_true Try.call21, eq_true Try.call22, eq_true Try.call23, eq_true Try.call24, eq_true Try.call25, eq_true Try.call26, eq_true Try.call27, eq_true Try.call28, eq_true Try.call29, eq_true Try.call30, eq_true Try.call31, eq_true Try.call32, eq_true Try.call33, eq_true Try.call34, eq_true Try.call35, eq_true Try.call36, eq_true Try.call37, eq_true Try.call38, eq_true Try.call39, eq_true Try.call40, eq_true Try.call41, eq_true Try.call42⟩

theorem tc1 :
    (CallT Try.prog 43 = True) ∧
    (CallT Try.prog 44 = True) ∧
    (CallT Try.prog 45 = True) ∧
    (CallT Try.prog 46 = True) ∧
    (CallT Try.prog 47 = True) ∧
    (CallT Try.prog 48 = True) ∧
    (CallT Try.prog 49 = True) ∧
    (CallT Try.prog 50 = True) ∧
    (CallT Try.prog 51 = True) ∧
    (CallT Try.prog 52 = True) ∧
    (CallT Try.prog 53 = True) ∧
    (CallT Try.prog 54 = True) ∧
    (CallT Try.prog 55 = True) ∧
    (CallT Try.prog 56 = True) ∧
    (CallT Try.prog 57 = True) ∧
    (CallT Try.prog 58 = True) ∧
    (CallT Try.prog 59 = True) ∧
    (CallT Try.prog 60 = True) ∧
    (CallT Try.prog 61 = True) ∧
    (CallT Try.prog 62 = True) :=
  ⟨eq_true Try.call43, eq_true Try.call44, eq_true Try.call45, eq_true Try.call46, eq_true Try.call47, eq_true Try.call48, eq_true Try.call49, eq_true Try.call50, eq_true Try.call51, eq_true Try.call52, eq_true Try.call53, eq_true Try.call54, eq_true Try.call55, eq_true Try.call56, eq_true Try.call57, eq_true Try.call58, eq_true Try.call59, eq_true Try.call60, eq_true Try.call61, eq_true Try.call62⟩

theorem res3 : Try.f3.results.toList = [.tmp 6] := by kernel_rfl
theorem res4 : Try.f4.results.toList = [.tmp 6] := by kernel_rfl
theorem res5 : Try.f5.results.toList = [.tmp 4] := by kernel_rfl
theorem res6 : Try.f6.results.toList = [.tmp 6] := by kernel_rfl
theorem res7 : Try.f7.results.toList = [.tmp 2] := by kernel_rfl
theorem res8 : Try.f8.results.toList = [.tmp 6] := by kernel_rfl
theorem res9 : Try.f9.results.toList = [.cell 4 3, .cell 5 26] := by kernel_rfl
theorem res10 : Try.f10.results.toList = [.tmp 4, .tmp 5] := by kernel_rfl
theorem res11 : Try.f11.results.toList = [.cell 6 3, .cell 7 26] := by kernel_rfl
theorem res12 : Try.f12.results.toList = [.tmp 6, .tmp 7] := by kernel_rfl
theorem res13 : Try.f13.results.toList = [.tmp 0] := by kernel_rfl
theorem res14 : Try.f14.results.toList = [.tmp 2] := by kernel_rfl
theorem res15 : Try.f15.results.toList = [.tmp 2] := by kernel_rfl
theorem res16 : Try.f16.results.toList = [.cell 2 34] := by kernel_rfl
theorem res17 : Try.f17.results.toList = [.tmp 4, .tmp 5, .tmp 6] := by kernel_rfl
theorem res18 : Try.f18.results.toList = [.tmp 4] := by kernel_rfl
theorem res19 : Try.f19.results.toList = [.tmp 2] := by kernel_rfl
theorem res20 : Try.f20.results.toList = [.tmp 8] := by kernel_rfl
theorem res21 : Try.f21.results.toList = [.tmp 6] := by kernel_rfl
theorem res22 : Try.f22.results.toList = [.tmp 4, .tmp 5] := by kernel_rfl
theorem res23 : Try.f23.results.toList = [.tmp 4, .tmp 5] := by kernel_rfl
theorem res24 : Try.f24.results.toList = [.tmp 2] := by kernel_rfl
theorem res25 : Try.f25.results.toList = [.tmp 4, .tmp 5, .tmp 6] := by kernel_rfl
theorem res26 : Try.f26.results.toList = [.tmp 4] := by kernel_rfl
theorem res27 : Try.f27.results.toList = [.tmp 2, .tmp 3] := by kernel_rfl
theorem res28 : Try.f28.results.toList = [.tmp 2, .tmp 3] := by kernel_rfl
theorem res29 : Try.f29.results.toList = [.tmp 2, .tmp 3] := by kernel_rfl
theorem res30 : Try.f30.results.toList = [.tmp 2, .tmp 3] := by kernel_rfl
theorem res31 : Try.f31.results.toList = [.tmp 2] := by kernel_rfl
theorem res32 : Try.f32.results.toList = [.tmp 4] := by kernel_rfl
theorem res33 : Try.f33.results.toList = [.tmp 4] := by kernel_rfl
theorem res34 : Try.f34.results.toList = [.cell 4 67, .tmp 5] := by kernel_rfl
theorem res35 : Try.f35.results.toList = [] := by kernel_rfl
theorem res36 : Try.f36.results.toList = [.tmp 4] := by kernel_rfl
theorem res37 : Try.f37.results.toList = [.tmp 4] := by kernel_rfl
theorem res38 : Try.f38.results.toList = [.tmp 6] := by kernel_rfl
theorem res39 : Try.f39.results.toList = [.tmp 6] := by kernel_rfl
theorem res40 : Try.f40.results.toList = [.tmp 6] := by kernel_rfl
theorem res41 : Try.f41.results.toList = [.cell 0 34, .cell 1 76, .cell 2 25] := by kernel_rfl
theorem res42 : Try.f42.results.toList = [.cell 6 4, .cell 7 4] := by kernel_rfl
theorem res43 : Try.f43.results.toList = [.tmp 4] := by kernel_rfl
theorem res44 : Try.f44.results.toList = [] := by kernel_rfl
theorem res45 : Try.f45.results.toList = [.tmp 6] := by kernel_rfl
theorem res46 : Try.f46.results.toList = [.tmp 2] := by kernel_rfl
theorem res47 : Try.f47.results.toList = [.tmp 2] := by kernel_rfl
theorem res48 : Try.f48.results.toList = [.tmp 2] := by kernel_rfl
theorem res49 : Try.f49.results.toList = [.tmp 4] := by kernel_rfl
theorem res50 : Try.f50.results.toList = [.tmp 4] := by kernel_rfl
theorem res51 : Try.f51.results.toList = [.tmp 6] := by kernel_rfl
theorem res52 : Try.f52.results.toList = [.tmp 8] := by kernel_rfl
theorem res53 : Try.f53.results.toList = [.tmp 4] := by kernel_rfl
theorem res54 : Try.f54.results.toList = [.tmp 4] := by kernel_rfl
theorem res55 : Try.f55.results.toList = [.tmp 6] := by kernel_rfl
theorem res56 : Try.f56.results.toList = [.tmp 4, .tmp 5] := by kernel_rfl
theorem res57 : Try.f57.results.toList = [.tmp 2] := by kernel_rfl
theorem res58 : Try.f58.results.toList = [.cell 6 23, .tmp 7] := by kernel_rfl
theorem res59 : Try.f59.results.toList = [.tmp 2] := by kernel_rfl
theorem res60 : Try.f60.results.toList = [.tmp 4] := by kernel_rfl
theorem res61 : Try.f61.results.toList = [.tmp 4] := by kernel_rfl
theorem res62 : Try.f62.results.toList = [] := by kernel_rfl

noncomputable abbrev EV (w : World) (X : Nat → Prop) (re : List Nat) (ord : List (Nat × Plan)) (det : Nat → List Value → Option Value) (cuts : List Nat) : Env := { P := Try.prog, w0 := ⟨w, X⟩, re := re, ord := ord, det := det, cuts := cuts }

abbrev I (n : Int) : Value := .int .i64 n

theorem mixed_prog : Try.prog.follows .mixedOrders = true := by kernel_rfl

theorem walkC {f : Nat} {fn : Func} {c : Code} {args : List Value} {n : Nat} {rs : List ResultVar} {Post : Value → List HO → Prop} {w : World} {X : Nat → Prop} (cuts : List Nat) (re : List Nat) (ord : List (Nat × Plan)) {det : Nat → List Value → Option Value} (hD : DetFn Try.prog ⟨w, X⟩ det)
    (hf : Try.prog.funcs[f]? = some fn) (hb : fn.body = some c) (hn : fn.ntmps = n) (hr : fn.results.toList = rs) (hok : codeB ord c = true) {H0 : List HO}
    (h0 : (∀ h ∈ H0, h.ok w) ∧ (∀ h ∈ H0, ∀ b, h.fp b → X b) ∧ H0.Pairwise Apart)
    (h : W (EV w X re ord det cuts) c (retQ (EV w X re ord det cuts) rs Post) (args.map SV.v ++ List.replicate (n - args.length) (.v undef)) [] H0) : SX.Fn Try.prog f args w X Post := by
  subst hn hr
  exact SX.Fn.intro (E := EV w X re ord det cuts) hf hb trivial hD mixed_prog hok h0 h

theorem walk {f : Nat} {fn : Func} {c : Code} {args : List Value} {n : Nat} {rs : List ResultVar} {Post : Value → List HO → Prop} {w : World} {X : Nat → Prop} (re : List Nat) (ord : List (Nat × Plan)) {det : Nat → List Value → Option Value} (hD : DetFn Try.prog ⟨w, X⟩ det)
    (hf : Try.prog.funcs[f]? = some fn) (hb : fn.body = some c) (hn : fn.ntmps = n) (hr : fn.results.toList = rs) (hok : codeB ord c = true) {H0 : List HO}
    (h0 : (∀ h ∈ H0, h.ok w) ∧ (∀ h ∈ H0, ∀ b, h.fp b → X b) ∧ H0.Pairwise Apart)
    (h : W (EV w X re ord det []) c (retQ (EV w X re ord det []) rs Post) (args.map SV.v ++ List.replicate (n - args.length) (.v undef)) [] H0) : SX.Fn Try.prog f args w X Post :=
  walkC [] re ord hD hf hb hn hr hok h0 h

theorem walkIterR {gf : Nat} {fn : Func} {c : Code} {pre post : List Value} {nt n : Nat} {arg : Nat → List Value → List HO → Prop} {w : World} (Rs : Nat → Prop) (re : List Nat) (ord : List (Nat × Plan)) {det : Nat → List Value → Option Value} (hD : ∀ X, (∀ b, Rs b → ¬ X b) → DetFn Try.prog ⟨w, X⟩ det)
    (hf : Try.prog.funcs[gf]? = some fn) (hb : fn.body = some c) (hn : fn.ntmps = nt) (hr : fn.results.toList = []) (hok : codeB ord c = true)
    (h : ∀ l J C R, (∀ b, Rs b → ¬ (C b ∨ False)) → Handler Try.prog l n arg w C (fun _ => False) J → W (EV w (fun b => C b ∨ False) re ord det []) c (retQ (EV w (fun b => C b ∨ False) re ord det []) [] (iterPost n J)) ((pre ++ [Value.func (.yield l) #[] #[]] ++ post).map SV.v ++ List.replicate (nt - (pre ++ [Value.func (.yield l) #[] #[]] ++ post).length) (.v undef)) [] [consu J (some 0) C R]) :
    Iter Try.prog gf pre post n arg (fun _ => False) Rs w := by
  refine Iter.intro fun l J C R hRs hH hk => ?_
  have hRs' : ∀ b, Rs b → ¬ (C b ∨ False) := fun b hb hc => hc.elim (hRs b hb) id
  have hw := h l J C R hRs' hH
  rw [← hr] at hw
  subst hn
  exact Fn.introZ (E := EV w (fun b => C b ∨ False) re ord det []) (fun b => C b ∨ R b) hf hb trivial (hD _ hRs') mixed_prog hok ⟨fun g hg => by rw [List.mem_singleton] at hg; subst hg; exact hk, fun g hg b => by rw [List.mem_singleton] at hg; subst hg; exact ⟨id, fun x => .inl x⟩, List.pairwise_singleton _ _⟩ hw

theorem walkIter {gf : Nat} {fn : Func} {c : Code} {pre post : List Value} {nt n : Nat} {arg : Nat → List Value → List HO → Prop} {w : World} (re : List Nat) (ord : List (Nat × Plan)) {det : Nat → List Value → Option Value} (hD : ∀ X, DetFn Try.prog ⟨w, X⟩ det)
    (hf : Try.prog.funcs[gf]? = some fn) (hb : fn.body = some c) (hn : fn.ntmps = nt) (hr : fn.results.toList = []) (hok : codeB ord c = true)
    (h : ∀ l J C R, Handler Try.prog l n arg w C (fun _ => False) J → W (EV w (fun b => C b ∨ False) re ord det []) c (retQ (EV w (fun b => C b ∨ False) re ord det []) [] (iterPost n J)) ((pre ++ [Value.func (.yield l) #[] #[]] ++ post).map SV.v ++ List.replicate (nt - (pre ++ [Value.func (.yield l) #[] #[]] ++ post).length) (.v undef)) [] [consu J (some 0) C R]) :
    Iter Try.prog gf pre post n arg (fun _ => False) (fun _ => False) w :=
  walkIterR _ re ord (fun X _ => hD X) hf hb hn hr hok fun l J C R _ => h l J C R

theorem no_facts {w : World} {X : Nat → Prop} : (∀ h ∈ ([] : List HO), h.ok w) ∧ (∀ h ∈ ([] : List HO), ∀ b, h.fp b → X b) ∧ ([] : List HO).Pairwise Apart := ⟨by simp, by simp, List.Pairwise.nil⟩

theorem wrap_id {n : Int} (h : -9223372036854775808 ≤ n ∧ n ≤ 9223372036854775807) : IntKind.i64.wrap n = n := by
  rw [IntKind.wrap_i64]
  omega

end Go.Proofs.Ytpfbpelkodlljaa
