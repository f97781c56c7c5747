/- Parts of a proof: the symbolic walk and what it shows of single functions. -/
import Derived.Test.YtljpknnhimkkjaaGreatDoorC5
import Derived.Test.YtljpknnhimkkjaaGreatDoorP3
import Derived.Test.YtljpknnhimkkjaaGreatDoorK3
import Derived.Test.YtljpknnhimkkjaaGreatDoorH3
import Derived.Test.YtljpknnhimkkjaaGreatDoorH4
import Derived.Test.YtljpknnhimkkjaaGreatDoorH2
set_option linter.all false
namespace Go.Proofs.YtljpknnhimkkjaaGreatDoor
open Go.RowKit Go.SX Go.ChangeShapes Go.WideShapes Go.ChangeAt
set_option maxRecDepth 100000
theorem flat_base:flat Tryz.prog 6 45 = some [.int .i64,.int .i64,.int .i64,.int .i64,.int .i64,.int .i64,.int .i64,.int .i64,.int .i64,.int .i64,.int .i64,.int .i64,.slice 61,.int .i64,.int .i64,.slice 3]:=by kernel_rfl
theorem flat_mark:flat Tryz.prog 4 53 = some [.int .i64,.int .i64]:=by kernel_rfl
theorem flat_coast:flat Tryz.prog 6 29 = some [.int .i64,.int .i64,.slice 3,.slice 49,.slice 3,.slice 45,.slice 53,.int .i64,.int .i64]:=by kernel_rfl
theorem cells_base:Tryz.prog.cellsOf 45 = 16:=by kernel_rfl
theorem cells_mark:Tryz.prog.cellsOf 53 = 2:=by kernel_rfl
theorem sl_marks {w:World} {a:Option Addr} {len cap:Nat} {xss:List (List Value)} (hs:Sl w (.slice a len cap) (Tryz.prog.cellsOf 53) xss.flatten) (hx:∀ xs ∈ xss,∀ m es,flat Tryz.prog m 53 = some es → Lvs Tryz.prog w es xs):∃ l:List (Int × Int),Sl w (.slice a len cap) 2 (cat spc l):=by
 obtain ⟨us,hu,_⟩:=cat_of (f:=spc) (xss:=xss) fun xs hxs=>by
  obtain ⟨a,b,hl⟩:=leaves2 (hx xs hxs 4 _ flat_mark)
  exact ⟨(a,b),hl⟩
 rw [cells_mark,hu] at hs
 exact ⟨us,hs⟩
theorem base_lvs {w:World} {vs:List Value} (h:Lvs Tryz.prog w [.int .i64,.int .i64,.int .i64,.int .i64,.int .i64,.int .i64,.int .i64,.int .i64,.int .i64,.int .i64,.int .i64,.int .i64,.slice 61,.int .i64,.int .i64,.slice 3] vs):∃ p:Bm,vs = bac p ∧ BsOk w p:=by
 cases h with | @int _ b1 _ _ _ h=>cases h with | @int _ b2 _ _ _ h=>cases h with | @int _ b3 _ _ _ h=>cases h with | @int _ b4 _ _ _ h=>cases h with | @int _ b5 _ _ _ h=>cases h with | @int _ b6 _ _ _ h=>cases h with | @int _ b7 _ _ _ h=>cases h with | @int _ r1 _ _ _ h=>cases h with | @int _ r2 _ _ _ h=>cases h with | @int _ r3 _ _ _ h=>cases h with | @int _ r4 _ _ _ h=>cases h with | @int _ r5 _ _ _ h=>cases h with | @slice _ a n c x1 _ _ _ _ _ s1 _ e1 h=>cases h with | @int _ wi _ _ _ h=>cases h with | @int _ du _ _ _ h=>cases h with | @slice _ a2 n2 c2 x2 _ _ _ _ _ s2 _ e2 h=>cases h with | nil=>
  obtain ⟨l1,h1,h2⟩:=sl_hands s1 e1
  obtain ⟨l2,h3,_⟩:=sl_ints s2 e2
  exact ⟨(⟨⟨b1,b2,b3,b4,b5,b6,b7⟩,⟨r1,r2,r3,r4,r5⟩,⟨l1.map Prod.fst,wi,du⟩,l2⟩,.slice a n c,.slice a2 n2 c2),rfl,⟨_,l1,rfl,rfl,h1,h2⟩,h3⟩
theorem sl_bases {w:World} {a:Option Addr} {len cap:Nat} {xss:List (List Value)} (hs:Sl w (.slice a len cap) (Tryz.prog.cellsOf 45) xss.flatten) (hx:∀ xs ∈ xss,∀ m es,flat Tryz.prog m 45 = some es → Lvs Tryz.prog w es xs):∃ l:List Bm,Sl w (.slice a len cap) 16 (cat bac l) ∧ ∀ p ∈ l,BsOk w p:=by
 obtain ⟨us,hu,_,hp⟩:=cat_ofP (f:=bac) (p:=BsOk w) (xss:=xss) fun xs hxs=>base_lvs (hx xs hxs 6 _ flat_base)
 rw [cells_base,hu] at hs
 exact ⟨us,hs,hp⟩
theorem coast_of {H:Type} {enc:TypeId × Value → H} {w:World} {base:Nat} {v:Value} {d:DataW H} {ps:List MemPlace} (h:Value.okWide Tryz.prog w .any base 29 v) (hd:DataW.Trod enc Tryz.prog w 0 (fun _=>true) true 29 v d ps):∃ x,CoOk w v x:=by
 obtain ⟨cs,rfl⟩:=agg_of Tryz.underlying29 h
 have hl:=lvs_of_Trod hd 6 flat_coast
 rw [show (Value.agg cs).cells.toList = cs.toList from rfl] at hl
 generalize hcs:cs.toList = l at hl
 cases hl with | @int _ wi _ _ _ hl=>cases hl with | @int _ hi _ _ _ hl=>cases hl with | @slice _ a1 n1 c1 x1 _ _ _ _ _ s1 _ e1 hl=>cases hl with | @slice _ a2 n2 c2 x2 _ _ _ _ _ s2 _ e2 hl=>cases hl with | @slice _ a3 n3 c3 x3 _ _ _ _ _ s3 _ e3 hl=>cases hl with | @slice _ a4 n4 c4 x4 _ _ _ _ _ s4 _ e4 hl=>cases hl with | @slice _ a5 n5 c5 x5 _ _ _ _ _ s5 _ e5 hl=>cases hl with | @int _ le _ _ _ hl=>cases hl with | @int _ ca _ _ _ hl=>
  cases hl
  obtain ⟨l1,h1,_⟩:=sl_ints s1 e1
  obtain ⟨l2,h2,_⟩:=sl_spans s2 e2
  obtain ⟨l3,h3,_⟩:=sl_ints s3 e3
  obtain ⟨l4,h4,g4⟩:=sl_bases s4 e4
  obtain ⟨l5,h5⟩:=sl_marks s5 e5
  exact ⟨⟨⟨wi,hi,l1,l2,l3⟩,l4.map Prod.fst,l5,le,ca⟩,_,_,_,_,_,l4,by rw [show cs = cs.toList.toArray by simp,hcs]; rfl,⟨_,_,_,rfl,h1,h2,h3⟩,rfl,h4,g4,h5⟩
theorem flat_query:flat Tryz.prog 4 67 = some [.int .i64,.int .i64,.int .i64,.slice 3]:=by kernel_rfl
section
variable {H:Type} {enc:TypeId × Value → H} {w:World} {base:Nat} {v:Value} {d:DataW H} {ps:List MemPlace}
theorem query_of (h:Value.okWide Tryz.prog w .any base 67 v) (hd:DataW.Trod enc Tryz.prog w 0 (fun _=>true) true 67 v d ps):∃ x y z s l,v = .agg #[I x,I y,I z,s] ∧ Sl w s 1 (ints l):=by
 obtain ⟨cs,rfl⟩:=agg_of Tryz.underlying67 h
 have hl:=lvs_of_Trod hd 4 flat_query
 rw [show (Value.agg cs).cells.toList = cs.toList from rfl] at hl
 generalize hcs:cs.toList = l at hl
 cases hl with | int _ hl=>cases hl with | int _ hl=>cases hl with | int _ hl=>cases hl with | slice x1 _ _ _ s1 _ e1 hl=>
  cases hl
  obtain ⟨l1,h1,_⟩:=sl_ints s1 e1
  exact ⟨_,_,_,_,l1,by rw [show cs = cs.toList.toArray by simp,hcs],h1⟩
end
end Go.Proofs.YtljpknnhimkkjaaGreatDoor

namespace Go.Proofs.YtljpknnhimkkjaaGreatDoor
open Go.RowKit Go.SX
set_option maxRecDepth 10000
set_option maxHeartbeats 0
set_option linter.unusedSimpArgs false
set_option linter.unusedVariables false
def VldP (x:Cst) (r:Value):Prop:=∃ b,r = .bool b ∧ (b = true → x.small ∧ x.ok ∧ x.bases.length ≤ 3)
theorem valid8_fn (w:World) (hw:Ways w) (v:Value) (x:Cst) (hx:CoOk w v x):SX.Fn Tryz.prog 24 [v] w (fun _=>False) fun r N=>VldP x r:=by
 have dn:∀ (g:Nat) (xs:List Value),det0 g xs = none:=fun _ _=>rfl
 have hfa:=fun (H:List HO) w' (hp:Hp ⟨w,fun _=>False⟩ H w')=>far8_fn w' v x (hx.hp hp)
 have hck:=fun (hsm:x.small) (H:List HO) w' (hp:Hp ⟨w,fun _=>False⟩ H w')=>rcheck8_fn w' (hw.hp hp) v x (hx.hp hp) hsm
 have hno:VldP x (.bool false):=⟨false,rfl,fun h=>by cases h⟩
 obtain ⟨sD,sT,sS,vb,vm,pb,rfl,_⟩:=hx
 unfold cov at hfa hck ⊢
 refine walk [] [] (det0_ok _ _) Tryz.func24 rfl Tryz.ntmps24 res24 (by kernel_rfl) no_facts ?_
 simp (config := { maxSteps := 4000000 }) only [↓sxw,sxw,tf24,sxu,sxl,sxm,simprocAttr,dn]
 refine CallOb.pureH (fun w' hp=>hfa _ w' hp) ?_
 rintro r N ⟨b,rfl,hb⟩
 cases b with
 | true=>
  refine ⟨?_⟩
  simp (config := { maxSteps := 4000000 }) only [↓sxw,sxw,tf24,sxu,sxl,sxm,simprocAttr,dn]
  exact hno
 | false=>
 obtain ⟨hsm,hb3⟩:=hb rfl
 refine ⟨?_⟩
 simp (config := { maxSteps := 4000000 }) only [↓sxw,sxw,tf24,sxu,sxl,sxm,simprocAttr,dn]
 refine CallOb.pureH (fun w' hp=>hck hsm _ w' hp) ?_
 rintro r N2 rfl
 obtain ⟨OK,hOK⟩:∃ b,x.okB = b:=⟨_,rfl⟩
 rw [hOK]
 cases OK with
 | false=>
  refine ⟨?_⟩
  simp (config := { maxSteps := 4000000 }) only [↓sxw,sxw,tf24,sxu,sxl,sxm,simprocAttr,dn]
  exact hno
 | true=>
  have hok:=(Cst.okB_iff x).1 hOK
  refine ⟨?_⟩
  simp (config := { maxSteps := 4000000 }) only [↓sxw,sxw,tf24,sxu,sxl,sxm,simprocAttr,dn]
  exact ⟨true,rfl,fun _=>⟨hsm,hok,hb3 hok⟩⟩
end Go.Proofs.YtljpknnhimkkjaaGreatDoor

namespace Go.Proofs.YtljpknnhimkkjaaGreatDoor
open Go.RowKit Go.SX
set_option maxRecDepth 10000
set_option maxHeartbeats 0
set_option linter.unusedSimpArgs false
set_option linter.unusedVariables false
theorem calE_of {x:Cst} (hok:x.ok) {call:Int} (h0:0 ≤ call) (h1:call < x.calls):calE x call = 0:=by
 unfold calE
 rw [(Cst.okB_iff x).2 hok,if_pos rfl,(inB_iff _ _ _).2 (by omega),if_pos rfl]
theorem arvA_at {x:Cst} {call:Int} {ps:List Lm} (h:ps.map Prod.fst = arvA x call) {i:Nat} {p:Lm} (hp:ps[i]? = some p):∃ b,x.bases[i]? = some b ∧ p.1 = arvL x b call:=by
 have h1:(arvA x call)[i]? = some p.1:=by rw [← h,List.getElem?_map,hp]; rfl
 unfold arvA at h1
 rw [List.getElem?_map] at h1
 cases hb:x.bases[i]? with
 | none=>rw [hb] at h1; cases h1
 | some b=>
  rw [hb] at h1
  simp only [Option.map_some,Option.some.injEq] at h1
  exact ⟨b,rfl,h1.symm⟩
theorem arvL_at {x:Cst} {b:Bse} {call:Int} {k:Nat} {mc ml:Int} (h:x.marks[k]? = some (mc,ml)):(arvL x b call)[k]? = some (arv x b call mc.toNat):=by
 unfold arvL
 rw [List.getElem?_map,h]
 rfl
theorem arvL_len (x:Cst) (b:Bse) (call:Int):(arvL x b call).length = x.marks.length:=by unfold arvL; rw [List.length_map]
theorem arvA_len {x:Cst} {call:Int} {ps:List Lm} (h:ps.map Prod.fst = arvA x call):ps.length = x.bases.length:=by
 rw [← List.length_map (f:=Prod.fst),h]
 unfold arvA
 rw [List.length_map]
end Go.Proofs.YtljpknnhimkkjaaGreatDoor

namespace Go.Proofs.YtljpknnhimkkjaaGreatDoor
open Go.RowKit Go.SX
set_option maxRecDepth 10000
set_option maxHeartbeats 0
set_option linter.unusedSimpArgs false
set_option linter.unusedVariables false
theorem hit_at {x:Cst} {call:Int} {k i:Nat} {b:Bse} {mc ml:Int} (hb:x.bases[i]? = some b) (hm:x.marks[k]? = some (mc,ml)):hitB x call k i = (decide (arv x b call mc.toNat ≠ -1) && decide (arv x b call mc.toNat ≤ call + ml)):=by
 have h1:(arvA x call)[i]? = some (arvL x b call):=by unfold arvA; rw [List.getElem?_map,hb]; rfl
 have h2:(arvA x call).getD i [] = arvL x b call:=by rw [List.getD_eq_getElem?_getD,h1]; rfl
 have h3:(arvL x b call).getD k 0 = arv x b call mc.toNat:=by rw [List.getD_eq_getElem?_getD,arvL_at hm]; rfl
 have h4:x.marks.getD k (0,0) = (mc,ml):=by rw [List.getD_eq_getElem?_getD,hm]; rfl
 unfold hitB
 rw [h2,h3,h4]
end Go.Proofs.YtljpknnhimkkjaaGreatDoor

