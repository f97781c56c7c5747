/- A part of a proof: the symbolic walk and what it shows of single functions. -/
import Derived.Test.YtljpknnhimkkjaaGreatDoorC5
import Derived.Test.YtljpknnhimkkjaaGreatDoorP3
import Derived.Test.YtljpknnhimkkjaaGreatDoorK3
import Derived.Test.YtljpknnhimkkjaaGreatDoorH3
set_option linter.all false
namespace Go.Proofs.YtljpknnhimkkjaaGreatDoor
open Go.RowKit Go.SX Go.ChangeShapes Go.WideShapes Go.ChangeAt
set_option maxRecDepth 100000
theorem flat_base:flat Tryz.prog 6 45 = some [.int .i64,.int .i64,.int .i64,.int .i64,.int .i64,.int .i64,.int .i64,.int .i64,.int .i64,.int .i64,.int .i64,.int .i64,.slice 61,.int .i64,.int .i64,.slice 3]:=by kernel_rfl
theorem flat_mark:flat Tryz.prog 4 53 = some [.int .i64,.int .i64]:=by kernel_rfl
theorem flat_coast:flat Tryz.prog 6 29 = some [.int .i64,.int .i64,.slice 3,.slice 49,.slice 3,.slice 45,.slice 53,.int .i64,.int .i64]:=by kernel_rfl
theorem cells_base:Tryz.prog.cellsOf 45 = 16:=by kernel_rfl
theorem cells_mark:Tryz.prog.cellsOf 53 = 2:=by kernel_rfl
theorem sl_marks {w:World} {a:Option Addr} {len cap:Nat} {xss:List (List Value)} (hs:Sl w (.slice a len cap) (Tryz.prog.cellsOf 53) xss.flatten) (hx:∀ xs ∈ xss,∀ m es,flat Tryz.prog m 53 = some es → Lvs Tryz.prog w es xs):∃ l:List (Int × Int),Sl w (.slice a len cap) 2 (cat spc l):=by
 obtain ⟨us,hu,_⟩:=cat_of (f:=spc) (xss:=xss) fun xs hxs=>by
  obtain ⟨a,b,hl⟩:=leaves2 (hx xs hxs 4 _ flat_mark)
  exact ⟨(a,b),hl⟩
 rw [cells_mark,hu] at hs
 exact ⟨us,hs⟩
theorem base_lvs {w:World} {vs:List Value} (h:Lvs Tryz.prog w [.int .i64,.int .i64,.int .i64,.int .i64,.int .i64,.int .i64,.int .i64,.int .i64,.int .i64,.int .i64,.int .i64,.int .i64,.slice 61,.int .i64,.int .i64,.slice 3] vs):∃ p:Bm,vs = bac p ∧ BsOk w p:=by
 cases h with | @int _ b1 _ _ _ h=>cases h with | @int _ b2 _ _ _ h=>cases h with | @int _ b3 _ _ _ h=>cases h with | @int _ b4 _ _ _ h=>cases h with | @int _ b5 _ _ _ h=>cases h with | @int _ b6 _ _ _ h=>cases h with | @int _ b7 _ _ _ h=>cases h with | @int _ r1 _ _ _ h=>cases h with | @int _ r2 _ _ _ h=>cases h with | @int _ r3 _ _ _ h=>cases h with | @int _ r4 _ _ _ h=>cases h with | @int _ r5 _ _ _ h=>cases h with | @slice _ a n c x1 _ _ _ _ _ s1 _ e1 h=>cases h with | @int _ wi _ _ _ h=>cases h with | @int _ du _ _ _ h=>cases h with | @slice _ a2 n2 c2 x2 _ _ _ _ _ s2 _ e2 h=>cases h with | nil=>
  obtain ⟨l1,h1,h2⟩:=sl_hands s1 e1
  obtain ⟨l2,h3,_⟩:=sl_ints s2 e2
  exact ⟨(⟨⟨b1,b2,b3,b4,b5,b6,b7⟩,⟨r1,r2,r3,r4,r5⟩,⟨l1.map Prod.fst,wi,du⟩,l2⟩,.slice a n c,.slice a2 n2 c2),rfl,⟨_,l1,rfl,rfl,h1,h2⟩,h3⟩
theorem sl_bases {w:World} {a:Option Addr} {len cap:Nat} {xss:List (List Value)} (hs:Sl w (.slice a len cap) (Tryz.prog.cellsOf 45) xss.flatten) (hx:∀ xs ∈ xss,∀ m es,flat Tryz.prog m 45 = some es → Lvs Tryz.prog w es xs):∃ l:List Bm,Sl w (.slice a len cap) 16 (cat bac l) ∧ ∀ p ∈ l,BsOk w p:=by
 obtain ⟨us,hu,_,hp⟩:=cat_ofP (f:=bac) (p:=BsOk w) (xss:=xss) fun xs hxs=>base_lvs (hx xs hxs 6 _ flat_base)
 rw [cells_base,hu] at hs
 exact ⟨us,hs,hp⟩
theorem coast_of {H:Type} {enc:TypeId × Value → H} {w:World} {base:Nat} {v:Value} {d:DataW H} {ps:List MemPlace} (h:Value.okWide Tryz.prog w .any base 29 v) (hd:DataW.Trod enc Tryz.prog w 0 (fun _=>true) true 29 v d ps):∃ x,CoOk w v x:=by
 obtain ⟨cs,rfl⟩:=agg_of Tryz.underlying29 h
 have hl:=lvs_of_Trod hd 6 flat_coast
 rw [show (Value.agg cs).cells.toList = cs.toList from rfl] at hl
 generalize hcs:cs.toList = l at hl
 cases hl with | @int _ wi _ _ _ hl=>cases hl with | @int _ hi _ _ _ hl=>cases hl with | @slice _ a1 n1 c1 x1 _ _ _ _ _ s1 _ e1 hl=>cases hl with | @slice _ a2 n2 c2 x2 _ _ _ _ _ s2 _ e2 hl=>cases hl with | @slice _ a3 n3 c3 x3 _ _ _ _ _ s3 _ e3 hl=>cases hl with | @slice _ a4 n4 c4 x4 _ _ _ _ _ s4 _ e4 hl=>cases hl with | @slice _ a5 n5 c5 x5 _ _ _ _ _ s5 _ e5 hl=>cases hl with | @int _ le _ _ _ hl=>cases hl with | @int _ ca _ _ _ hl=>
  cases hl
  obtain ⟨l1,h1,_⟩:=sl_ints s1 e1
  obtain ⟨l2,h2,_⟩:=sl_spans s2 e2
  obtain ⟨l3,h3,_⟩:=sl_ints s3 e3
  obtain ⟨l4,h4,g4⟩:=sl_bases s4 e4
  obtain ⟨l5,h5⟩:=sl_marks s5 e5
  exact ⟨⟨⟨wi,hi,l1,l2,l3⟩,l4.map Prod.fst,l5,le,ca⟩,_,_,_,_,_,l4,by rw [show cs = cs.toList.toArray by simp,hcs]; rfl,⟨_,_,_,rfl,h1,h2,h3⟩,rfl,h4,g4,h5⟩
section
variable {H:Type} {enc:TypeId × Value → H} {w:World} {base:Nat} {v:Value} {d:DataW H} {ps:List MemPlace}
end
end Go.Proofs.YtljpknnhimkkjaaGreatDoor
