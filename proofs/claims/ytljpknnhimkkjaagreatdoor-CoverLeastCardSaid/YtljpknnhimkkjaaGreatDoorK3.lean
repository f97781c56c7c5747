/- Parts of a proof: the symbolic walk and what it shows of single functions. -/
import Derived.Test.YtljpknnhimkkjaaGreatDoorK1
import Derived.Test.YtljpknnhimkkjaaGreatDoorX3
import Derived.Test.YtljpknnhimkkjaaGreatDoorK2
set_option linter.all false
namespace Go.Proofs.YtljpknnhimkkjaaGreatDoor
open Go.RowKit Go.SX Go.ChangeShapes Go.WideShapes Go.ChangeAt
set_option maxRecDepth 4000
theorem leaves2K {P:Program} {w:World} {vs:List Value} (h:Lvs P w [.int .i64,.int .i64] vs):∃ a b,vs = [I a,I b]:=by
 cases h with | int _ h=>cases h with | int _ h=>cases h with | nil=>exact ⟨_,_,rfl⟩
theorem flat_spanK:flat Tryz.prog 4 49 = some [.int .i64,.int .i64]:=by kernel_rfl
theorem flat_hand:flat Tryz.prog 4 61 = some [.int .i64,.int .i64,.int .i64,.slice 49,.int .i64]:=by kernel_rfl
theorem cells_spanK:Tryz.prog.cellsOf 49 = 2:=by kernel_rfl
theorem cells_hand:Tryz.prog.cellsOf 61 = 5:=by kernel_rfl
theorem cat_ofP {α:Type} {f:α → List Value} {p:α → Prop}:∀ {xss:List (List Value)},(∀ xs ∈ xss,∃ u,xs = f u ∧ p u) → ∃ l:List α,xss.flatten = cat f l ∧ l.length = xss.length ∧ ∀ u ∈ l,p u
 | [],_=>⟨[],rfl,rfl,fun _ h=>by cases h⟩
 | xs :: xss,h=>by
  obtain ⟨u,rfl,hu⟩:=h xs List.mem_cons_self
  obtain ⟨l,hl,hn,hp⟩:=cat_ofP fun ys hy=>h ys (List.mem_cons_of_mem _ hy)
  refine ⟨u :: l,by rw [List.flatten_cons,hl,cat_cons],by simp [hn],fun v hv=>?_⟩
  rcases List.mem_cons.1 hv with rfl | hv
  ·exact hu
  ·exact hp v hv
theorem sl_spansK {w:World} {a:Option Addr} {len cap:Nat} {xss:List (List Value)} (hs:Sl w (.slice a len cap) (Tryz.prog.cellsOf 49) xss.flatten) (hx:∀ xs ∈ xss,∀ m es,flat Tryz.prog m 49 = some es → Lvs Tryz.prog w es xs):∃ l:List Spn,Sl w (.slice a len cap) 2 (cat spcK l):=by
 obtain ⟨us,hu,hl⟩:=cat_of (f:=spcK) (xss:=xss) fun xs hxs=>by
  obtain ⟨a,b,hl⟩:=leaves2K (hx xs hxs 4 _ flat_spanK)
  exact ⟨(a,b),hl⟩
 rw [cells_spanK,hu] at hs
 exact ⟨us,hs⟩
theorem hand_lvs {w:World} {vs:List Value} (h:Lvs Tryz.prog w [.int .i64,.int .i64,.int .i64,.slice 49,.int .i64] vs):∃ p:Hm,vs = hdc p ∧ LogOk w p:=by
 cases h with | @int _ sk _ _ _ h=>cases h with | @int _ lo _ _ _ h=>cases h with | @int _ hi _ _ _ h=>cases h with | @slice _ a len cap x1 _ _ _ _ _ s1 _ e1 h=>cases h with | @int _ an _ _ _ h=>cases h with | nil=>
  obtain ⟨l,hl⟩:=sl_spansK s1 e1
  have hn:=hl.le spc_lenK (by omega)
  subst hn
  exact ⟨(⟨sk,lo,hi,l,an⟩,a,cap),rfl,hl⟩
theorem sl_hands {w:World} {a:Option Addr} {len cap:Nat} {xss:List (List Value)} (hs:Sl w (.slice a len cap) (Tryz.prog.cellsOf 61) xss.flatten) (hx:∀ xs ∈ xss,∀ m es,flat Tryz.prog m 61 = some es → Lvs Tryz.prog w es xs):∃ l:List Hm,Sl w (.slice a len cap) 5 (cat hdc l) ∧ ∀ p ∈ l,LogOk w p:=by
 obtain ⟨us,hu,_,hp⟩:=cat_ofP (f:=hdc) (p:=LogOk w) (xss:=xss) fun xs hxs=>hand_lvs (hx xs hxs 4 _ flat_hand)
 rw [cells_hand,hu] at hs
 exact ⟨us,hs,hp⟩
section
variable {H:Type} {enc:TypeId × Value → H} {w:World} {base:Nat} {v:Value} {d:DataW H} {ps:List MemPlace}
end
end Go.Proofs.YtljpknnhimkkjaaGreatDoor

