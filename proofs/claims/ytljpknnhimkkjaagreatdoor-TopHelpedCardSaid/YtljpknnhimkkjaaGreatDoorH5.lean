/- Parts of a proof: the symbolic walk and what it shows of single functions. -/
import Derived.Test.YtljpknnhimkkjaaGreatDoorC5
import Derived.Test.YtljpknnhimkkjaaGreatDoorP3
import Derived.Test.YtljpknnhimkkjaaGreatDoorK3
import Derived.Test.YtljpknnhimkkjaaGreatDoorH3
import Derived.Test.YtljpknnhimkkjaaGreatDoorH4
set_option linter.all false
namespace Go.Proofs.YtljpknnhimkkjaaGreatDoor
open Go.RowKit Go.SX Go.ChangeShapes Go.WideShapes Go.ChangeAt
set_option maxRecDepth 100000
theorem flat_base:flat Tryz.prog 6 45 = some [.int .i64,.int .i64,.int .i64,.int .i64,.int .i64,.int .i64,.int .i64,.int .i64,.int .i64,.int .i64,.int .i64,.int .i64,.slice 61,.int .i64,.int .i64,.slice 3]:=by kernel_rfl
theorem flat_mark:flat Tryz.prog 4 53 = some [.int .i64,.int .i64]:=by kernel_rfl
theorem flat_coast:flat Tryz.prog 6 29 = some [.int .i64,.int .i64,.slice 3,.slice 49,.slice 3,.slice 45,.slice 53,.int .i64,.int .i64]:=by kernel_rfl
theorem cells_base:Tryz.prog.cellsOf 45 = 16:=by kernel_rfl
theorem cells_mark:Tryz.prog.cellsOf 53 = 2:=by kernel_rfl
theorem sl_marks {w:World} {a:Option Addr} {len cap:Nat} {xss:List (List Value)} (hs:Sl w (.slice a len cap) (Tryz.prog.cellsOf 53) xss.flatten) (hx:∀ xs ∈ xss,∀ m es,flat Tryz.prog m 53 = some es → Lvs Tryz.prog w es xs):∃ l:List (Int × Int),Sl w (.slice a len cap) 2 (cat spc l):=by
 obtain ⟨us,hu,_⟩:=cat_of (f:=spc) (xss:=xss) fun xs hxs=>by
  obtain ⟨a,b,hl⟩:=leaves2 (hx xs hxs 4 _ flat_mark)
  exact ⟨(a,b),hl⟩
 rw [cells_mark,hu] at hs
 exact ⟨us,hs⟩
theorem base_lvs {w:World} {vs:List Value} (h:Lvs Tryz.prog w [.int .i64,.int .i64,.int .i64,.int .i64,.int .i64,.int .i64,.int .i64,.int .i64,.int .i64,.int .i64,.int .i64,.int .i64,.slice 61,.int .i64,.int .i64,.slice 3] vs):∃ p:Bm,vs = bac p ∧ BsOk w p:=by
 cases h with | @int _ b1 _ _ _ h=>cases h with | @int _ b2 _ _ _ h=>cases h with | @int _ b3 _ _ _ h=>cases h with | @int _ b4 _ _ _ h=>cases h with | @int _ b5 _ _ _ h=>cases h with | @int _ b6 _ _ _ h=>cases h with | @int _ b7 _ _ _ h=>cases h with | @int _ r1 _ _ _ h=>cases h with | @int _ r2 _ _ _ h=>cases h with | @int _ r3 _ _ _ h=>cases h with | @int _ r4 _ _ _ h=>cases h with | @int _ r5 _ _ _ h=>cases h with | @slice _ a n c x1 _ _ _ _ _ s1 _ e1 h=>cases h with | @int _ wi _ _ _ h=>cases h with | @int _ du _ _ _ h=>cases h with | @slice _ a2 n2 c2 x2 _ _ _ _ _ s2 _ e2 h=>cases h with | nil=>
  obtain ⟨l1,h1,h2⟩:=sl_hands s1 e1
  obtain ⟨l2,h3,_⟩:=sl_ints s2 e2
  exact ⟨(⟨⟨b1,b2,b3,b4,b5,b6,b7⟩,⟨r1,r2,r3,r4,r5⟩,⟨l1.map Prod.fst,wi,du⟩,l2⟩,.slice a n c,.slice a2 n2 c2),rfl,⟨_,l1,rfl,rfl,h1,h2⟩,h3⟩
theorem sl_bases {w:World} {a:Option Addr} {len cap:Nat} {xss:List (List Value)} (hs:Sl w (.slice a len cap) (Tryz.prog.cellsOf 45) xss.flatten) (hx:∀ xs ∈ xss,∀ m es,flat Tryz.prog m 45 = some es → Lvs Tryz.prog w es xs):∃ l:List Bm,Sl w (.slice a len cap) 16 (cat bac l) ∧ ∀ p ∈ l,BsOk w p:=by
 obtain ⟨us,hu,_,hp⟩:=cat_ofP (f:=bac) (p:=BsOk w) (xss:=xss) fun xs hxs=>base_lvs (hx xs hxs 6 _ flat_base)
 rw [cells_base,hu] at hs
 exact ⟨us,hs,hp⟩
theorem coast_of {H:Type} {enc:TypeId × Value → H} {w:World} {base:Nat} {v:Value} {d:DataW H} {ps:List MemPlace} (h:Value.okWide Tryz.prog w .any base 29 v) (hd:DataW.Trod enc Tryz.prog w 0 (fun _=>true) true 29 v d ps):∃ x,CoOk w v x:=by
 obtain ⟨cs,rfl⟩:=agg_of Tryz.underlying29 h
 have hl:=lvs_of_Trod hd 6 flat_coast
 rw [show (Value.agg cs).cells.toList = cs.toList from rfl] at hl
 generalize hcs:cs.toList = l at hl
 cases hl with | @int _ wi _ _ _ hl=>cases hl with | @int _ hi _ _ _ hl=>cases hl with | @slice _ a1 n1 c1 x1 _ _ _ _ _ s1 _ e1 hl=>cases hl with | @slice _ a2 n2 c2 x2 _ _ _ _ _ s2 _ e2 hl=>cases hl with | @slice _ a3 n3 c3 x3 _ _ _ _ _ s3 _ e3 hl=>cases hl with | @slice _ a4 n4 c4 x4 _ _ _ _ _ s4 _ e4 hl=>cases hl with | @slice _ a5 n5 c5 x5 _ _ _ _ _ s5 _ e5 hl=>cases hl with | @int _ le _ _ _ hl=>cases hl with | @int _ ca _ _ _ hl=>
  cases hl
  obtain ⟨l1,h1,_⟩:=sl_ints s1 e1
  obtain ⟨l2,h2,_⟩:=sl_spans s2 e2
  obtain ⟨l3,h3,_⟩:=sl_ints s3 e3
  obtain ⟨l4,h4,g4⟩:=sl_bases s4 e4
  obtain ⟨l5,h5⟩:=sl_marks s5 e5
  exact ⟨⟨⟨wi,hi,l1,l2,l3⟩,l4.map Prod.fst,l5,le,ca⟩,_,_,_,_,_,l4,by rw [show cs = cs.toList.toArray by simp,hcs]; rfl,⟨_,_,_,rfl,h1,h2,h3⟩,rfl,h4,g4,h5⟩
section
variable {H:Type} {enc:TypeId × Value → H} {w:World} {base:Nat} {v:Value} {d:DataW H} {ps:List MemPlace}
end
end Go.Proofs.YtljpknnhimkkjaaGreatDoor

namespace Go.Proofs.YtljpknnhimkkjaaGreatDoor
open Go.RowKit Go.SX
set_option maxRecDepth 10000
set_option maxHeartbeats 0
set_option linter.unusedSimpArgs false
set_option linter.unusedVariables false
theorem calE_of {x:Cst} (hok:x.ok) {call:Int} (h0:0 ≤ call) (h1:call < x.calls):calE x call = 0:=by
 unfold calE
 rw [(Cst.okB_iff x).2 hok,if_pos rfl,(inB_iff _ _ _).2 (by omega),if_pos rfl]
theorem arvL_at {x:Cst} {b:Bse} {call:Int} {k:Nat} {mc ml:Int} (h:x.marks[k]? = some (mc,ml)):(arvL x b call)[k]? = some (arv x b call mc.toNat):=by
 unfold arvL
 rw [List.getElem?_map,h]
 rfl
end Go.Proofs.YtljpknnhimkkjaaGreatDoor

namespace Go.Proofs.YtljpknnhimkkjaaGreatDoor
open Go.RowKit Go.SX
set_option maxRecDepth 10000
set_option maxHeartbeats 0
set_option linter.unusedSimpArgs false
set_option linter.unusedVariables false
theorem testBit_set {base:Int} (hb:-1 ≤ base) (i:Nat):(setI [base]).testBit i = decide ((i:Int) = base):=by
 by_cases h:base = -1
 ·subst h
  have:setI [(-1:Int)] = 0:=rfl
  rw [this,Nat.zero_testBit,eq_comm,decide_eq_false_iff_not]
  omega
 ·obtain ⟨n,rfl⟩:∃ n:Nat,base = n:=⟨base.toNat,by omega⟩
  rw [setI_one,Nat.testBit_two_pow,decide_eq_decide]
  omega
theorem gapM_mem (x:Cst) (call:Int) (k:Nat) (p:Int × Int):∀ n,p ∈ gapM x call k n ↔ ∃ i,i < n ∧ p = ((k:Int),(i:Int) - 1) ∧ rchB x k call (setI [(i:Int) - 1]) = false
 | 0=>by simp [gapM]
 | n + 1=>by
  rw [gapM,List.mem_append,gapM_mem x call k p n]
  constructor
  ·rintro (⟨i,h1,h2,h3⟩ | h)
   ·exact ⟨i,by omega,h2,h3⟩
   ·split at h
    ·cases h
    ·rename_i h1
     rw [List.mem_singleton] at h
     exact ⟨n,by omega,h,by simpa using h1⟩
  ·rintro ⟨i,h1,h2,h3⟩
   by_cases hi:i < n
   ·exact .inl ⟨i,hi,h2,h3⟩
   ·obtain rfl:i = n:=by omega
    right
    rw [if_neg (by simp [h3])]
    exact List.mem_singleton.2 h2
theorem gapK_mem (x:Cst) (call:Int) (p:Int × Int):∀ n,p ∈ gapK x call n ↔ ∃ k,k < n ∧ p ∈ gapM x call k (x.bases.length + 1)
 | 0=>by simp [gapK]
 | n + 1=>by
  rw [gapK,List.mem_append,gapK_mem x call p n]
  constructor
  ·rintro (⟨i,h1,h2⟩ | h)
   ·exact ⟨i,by omega,h2⟩
   ·exact ⟨n,by omega,h⟩
  ·rintro ⟨i,h1,h2⟩
   by_cases hi:i < n
   ·exact .inl ⟨i,hi,h2⟩
   ·obtain rfl:i = n:=by omega
    exact .inr h2
theorem gap_iff {x:Cst} {call:Int} {k:Nat} (hk:k < x.marks.length) {base:Int} (hb:-1 ≤ base ∧ base < x.bases.length):((k:Int),base) ∈ gapK x call x.marks.length ↔ rchB x k call (setI [base]) = false:=by
 rw [gapK_mem]
 constructor
 ·rintro ⟨k2,_,h⟩
  obtain ⟨i,_,h2,h3⟩:=(gapM_mem x call k2 _ _).1 h
  simp only [Prod.mk.injEq] at h2
  obtain rfl:k = k2:=by omega
  rw [h2.2]
  exact h3
 ·intro h
  refine ⟨k,hk,(gapM_mem x call k _ _).2 ⟨(base + 1).toNat,by omega,?_,?_⟩⟩
  ·simp only [Prod.mk.injEq,true_and]
   omega
  ·rw [show (((base + 1).toNat:Nat):Int) - 1 = base by omega]
   exact h
theorem gapK_small {x:Cst} (hsm:x.small) (call:Int):(gapK x call x.marks.length).length ≤ 630:=by
 have h1:=gapK_len x call x.marks.length
 have h2:x.marks.length * (x.bases.length + 1) ≤ 30 * 21:=Nat.mul_le_mul hsm.nm (by have:=hsm.nb; omega)
 omega
theorem rch_set {x:Cst} {k:Nat} {call base:Int} (hb:-1 ≤ base):rchB x k call (setI [base]) = (List.range x.bases.length).any fun i=>!decide ((i:Int) = base) && hitB x call k i:=by
 unfold rchB
 congr 1
 funext i
 rw [testBit_set hb]
theorem hit_at {x:Cst} {call:Int} {k i:Nat} {b:Bse} {mc ml:Int} (hb:x.bases[i]? = some b) (hm:x.marks[k]? = some (mc,ml)):hitB x call k i = (decide (arv x b call mc.toNat ≠ -1) && decide (arv x b call mc.toNat ≤ call + ml)):=by
 have h1:(arvA x call)[i]? = some (arvL x b call):=by unfold arvA; rw [List.getElem?_map,hb]; rfl
 have h2:(arvA x call).getD i [] = arvL x b call:=by rw [List.getD_eq_getElem?_getD,h1]; rfl
 have h3:(arvL x b call).getD k 0 = arv x b call mc.toNat:=by rw [List.getD_eq_getElem?_getD,arvL_at hm]; rfl
 have h4:x.marks.getD k (0,0) = (mc,ml):=by rw [List.getD_eq_getElem?_getD,hm]; rfl
 unfold hitB
 rw [h2,h3,h4]
end Go.Proofs.YtljpknnhimkkjaaGreatDoor

