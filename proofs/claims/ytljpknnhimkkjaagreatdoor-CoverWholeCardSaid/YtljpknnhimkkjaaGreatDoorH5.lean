/- Parts of a proof: the symbolic walk and what it shows of single functions. -/
import Derived.Test.YtljpknnhimkkjaaGreatDoorC5
import Derived.Test.YtljpknnhimkkjaaGreatDoorP3
import Derived.Test.YtljpknnhimkkjaaGreatDoorK3
import Derived.Test.YtljpknnhimkkjaaGreatDoorH3
import Derived.Test.YtljpknnhimkkjaaGreatDoorH4
import Derived.Test.YtljpknnhimkkjaaGreatDoorH2
set_option linter.all false
namespace Go.Proofs.YtljpknnhimkkjaaGreatDoor
open Go.RowKit Go.SX Go.ChangeShapes Go.WideShapes Go.ChangeAt
set_option maxRecDepth 100000
theorem flat_base:flat Tryz.prog 6 45 = some [.int .i64,.int .i64,.int .i64,.int .i64,.int .i64,.int .i64,.int .i64,.int .i64,.int .i64,.int .i64,.int .i64,.int .i64,.slice 61,.int .i64,.int .i64,.slice 3]:=by kernel_rfl
theorem flat_mark:flat Tryz.prog 4 53 = some [.int .i64,.int .i64]:=by kernel_rfl
theorem flat_coast:flat Tryz.prog 6 29 = some [.int .i64,.int .i64,.slice 3,.slice 49,.slice 3,.slice 45,.slice 53,.int .i64,.int .i64]:=by kernel_rfl
theorem cells_base:Tryz.prog.cellsOf 45 = 16:=by kernel_rfl
theorem cells_mark:Tryz.prog.cellsOf 53 = 2:=by kernel_rfl
theorem sl_marks {w:World} {a:Option Addr} {len cap:Nat} {xss:List (List Value)} (hs:Sl w (.slice a len cap) (Tryz.prog.cellsOf 53) xss.flatten) (hx:∀ xs ∈ xss,∀ m es,flat Tryz.prog m 53 = some es → Lvs Tryz.prog w es xs):∃ l:List (Int × Int),Sl w (.slice a len cap) 2 (cat spc l):=by
 obtain ⟨us,hu,_⟩:=cat_of (f:=spc) (xss:=xss) fun xs hxs=>by
  obtain ⟨a,b,hl⟩:=leaves2 (hx xs hxs 4 _ flat_mark)
  exact ⟨(a,b),hl⟩
 rw [cells_mark,hu] at hs
 exact ⟨us,hs⟩
theorem base_lvs {w:World} {vs:List Value} (h:Lvs Tryz.prog w [.int .i64,.int .i64,.int .i64,.int .i64,.int .i64,.int .i64,.int .i64,.int .i64,.int .i64,.int .i64,.int .i64,.int .i64,.slice 61,.int .i64,.int .i64,.slice 3] vs):∃ p:Bm,vs = bac p ∧ BsOk w p:=by
 cases h with | @int _ b1 _ _ _ h=>cases h with | @int _ b2 _ _ _ h=>cases h with | @int _ b3 _ _ _ h=>cases h with | @int _ b4 _ _ _ h=>cases h with | @int _ b5 _ _ _ h=>cases h with | @int _ b6 _ _ _ h=>cases h with | @int _ b7 _ _ _ h=>cases h with | @int _ r1 _ _ _ h=>cases h with | @int _ r2 _ _ _ h=>cases h with | @int _ r3 _ _ _ h=>cases h with | @int _ r4 _ _ _ h=>cases h with | @int _ r5 _ _ _ h=>cases h with | @slice _ a n c x1 _ _ _ _ _ s1 _ e1 h=>cases h with | @int _ wi _ _ _ h=>cases h with | @int _ du _ _ _ h=>cases h with | @slice _ a2 n2 c2 x2 _ _ _ _ _ s2 _ e2 h=>cases h with | nil=>
  obtain ⟨l1,h1,h2⟩:=sl_hands s1 e1
  obtain ⟨l2,h3,_⟩:=sl_ints s2 e2
  exact ⟨(⟨⟨b1,b2,b3,b4,b5,b6,b7⟩,⟨r1,r2,r3,r4,r5⟩,⟨l1.map Prod.fst,wi,du⟩,l2⟩,.slice a n c,.slice a2 n2 c2),rfl,⟨_,l1,rfl,rfl,h1,h2⟩,h3⟩
theorem sl_bases {w:World} {a:Option Addr} {len cap:Nat} {xss:List (List Value)} (hs:Sl w (.slice a len cap) (Tryz.prog.cellsOf 45) xss.flatten) (hx:∀ xs ∈ xss,∀ m es,flat Tryz.prog m 45 = some es → Lvs Tryz.prog w es xs):∃ l:List Bm,Sl w (.slice a len cap) 16 (cat bac l) ∧ ∀ p ∈ l,BsOk w p:=by
 obtain ⟨us,hu,_,hp⟩:=cat_ofP (f:=bac) (p:=BsOk w) (xss:=xss) fun xs hxs=>base_lvs (hx xs hxs 6 _ flat_base)
 rw [cells_base,hu] at hs
 exact ⟨us,hs,hp⟩
theorem coast_of {H:Type} {enc:TypeId × Value → H} {w:World} {base:Nat} {v:Value} {d:DataW H} {ps:List MemPlace} (h:Value.okWide Tryz.prog w .any base 29 v) (hd:DataW.Trod enc Tryz.prog w 0 (fun _=>true) true 29 v d ps):∃ x,CoOk w v x:=by
 obtain ⟨cs,rfl⟩:=agg_of Tryz.underlying29 h
 have hl:=lvs_of_Trod hd 6 flat_coast
 rw [show (Value.agg cs).cells.toList = cs.toList from rfl] at hl
 generalize hcs:cs.toList = l at hl
 cases hl with | @int _ wi _ _ _ hl=>cases hl with | @int _ hi _ _ _ hl=>cases hl with | @slice _ a1 n1 c1 x1 _ _ _ _ _ s1 _ e1 hl=>cases hl with | @slice _ a2 n2 c2 x2 _ _ _ _ _ s2 _ e2 hl=>cases hl with | @slice _ a3 n3 c3 x3 _ _ _ _ _ s3 _ e3 hl=>cases hl with | @slice _ a4 n4 c4 x4 _ _ _ _ _ s4 _ e4 hl=>cases hl with | @slice _ a5 n5 c5 x5 _ _ _ _ _ s5 _ e5 hl=>cases hl with | @int _ le _ _ _ hl=>cases hl with | @int _ ca _ _ _ hl=>
  cases hl
  obtain ⟨l1,h1,_⟩:=sl_ints s1 e1
  obtain ⟨l2,h2,_⟩:=sl_spans s2 e2
  obtain ⟨l3,h3,_⟩:=sl_ints s3 e3
  obtain ⟨l4,h4,g4⟩:=sl_bases s4 e4
  obtain ⟨l5,h5⟩:=sl_marks s5 e5
  exact ⟨⟨⟨wi,hi,l1,l2,l3⟩,l4.map Prod.fst,l5,le,ca⟩,_,_,_,_,_,l4,by rw [show cs = cs.toList.toArray by simp,hcs]; rfl,⟨_,_,_,rfl,h1,h2,h3⟩,rfl,h4,g4,h5⟩
theorem flat_query:flat Tryz.prog 4 67 = some [.int .i64,.int .i64,.int .i64,.slice 3]:=by kernel_rfl
section
variable {H:Type} {enc:TypeId × Value → H} {w:World} {base:Nat} {v:Value} {d:DataW H} {ps:List MemPlace}
theorem query_of (h:Value.okWide Tryz.prog w .any base 67 v) (hd:DataW.Trod enc Tryz.prog w 0 (fun _=>true) true 67 v d ps):∃ x y z s l,v = .agg #[I x,I y,I z,s] ∧ Sl w s 1 (ints l):=by
 obtain ⟨cs,rfl⟩:=agg_of Tryz.underlying67 h
 have hl:=lvs_of_Trod hd 4 flat_query
 rw [show (Value.agg cs).cells.toList = cs.toList from rfl] at hl
 generalize hcs:cs.toList = l at hl
 cases hl with | int _ hl=>cases hl with | int _ hl=>cases hl with | int _ hl=>cases hl with | slice x1 _ _ _ s1 _ e1 hl=>
  cases hl
  obtain ⟨l1,h1,_⟩:=sl_ints s1 e1
  exact ⟨_,_,_,_,l1,by rw [show cs = cs.toList.toArray by simp,hcs],h1⟩
end
end Go.Proofs.YtljpknnhimkkjaaGreatDoor

namespace Go.Proofs.YtljpknnhimkkjaaGreatDoor
open Go.RowKit Go.SX
set_option maxRecDepth 10000
set_option maxHeartbeats 0
set_option linter.unusedSimpArgs false
set_option linter.unusedVariables false
def VldP (x:Cst) (r:Value):Prop:=∃ b,r = .bool b ∧ (b = true → x.small ∧ x.ok ∧ x.bases.length ≤ 3)
theorem valid8_fn (w:World) (hw:Ways w) (v:Value) (x:Cst) (hx:CoOk w v x):SX.Fn Tryz.prog 24 [v] w (fun _=>False) fun r N=>VldP x r:=by
 have dn:∀ (g:Nat) (xs:List Value),det0 g xs = none:=fun _ _=>rfl
 have hfa:=fun (H:List HO) w' (hp:Hp ⟨w,fun _=>False⟩ H w')=>far8_fn w' v x (hx.hp hp)
 have hck:=fun (hsm:x.small) (H:List HO) w' (hp:Hp ⟨w,fun _=>False⟩ H w')=>rcheck8_fn w' (hw.hp hp) v x (hx.hp hp) hsm
 have hno:VldP x (.bool false):=⟨false,rfl,fun h=>by cases h⟩
 obtain ⟨sD,sT,sS,vb,vm,pb,rfl,_⟩:=hx
 unfold cov at hfa hck ⊢
 refine walk [] [] (det0_ok _ _) Tryz.func24 rfl Tryz.ntmps24 res24 (by kernel_rfl) no_facts ?_
 simp (config := { maxSteps := 4000000 }) only [↓sxw,sxw,tf24,sxu,sxl,sxm,simprocAttr,dn]
 refine CallOb.pureH (fun w' hp=>hfa _ w' hp) ?_
 rintro r N ⟨b,rfl,hb⟩
 cases b with
 | true=>
  refine ⟨?_⟩
  simp (config := { maxSteps := 4000000 }) only [↓sxw,sxw,tf24,sxu,sxl,sxm,simprocAttr,dn]
  exact hno
 | false=>
 obtain ⟨hsm,hb3⟩:=hb rfl
 refine ⟨?_⟩
 simp (config := { maxSteps := 4000000 }) only [↓sxw,sxw,tf24,sxu,sxl,sxm,simprocAttr,dn]
 refine CallOb.pureH (fun w' hp=>hck hsm _ w' hp) ?_
 rintro r N2 rfl
 obtain ⟨OK,hOK⟩:∃ b,x.okB = b:=⟨_,rfl⟩
 rw [hOK]
 cases OK with
 | false=>
  refine ⟨?_⟩
  simp (config := { maxSteps := 4000000 }) only [↓sxw,sxw,tf24,sxu,sxl,sxm,simprocAttr,dn]
  exact hno
 | true=>
  have hok:=(Cst.okB_iff x).1 hOK
  refine ⟨?_⟩
  simp (config := { maxSteps := 4000000 }) only [↓sxw,sxw,tf24,sxu,sxl,sxm,simprocAttr,dn]
  exact ⟨true,rfl,fun _=>⟨hsm,hok,hb3 hok⟩⟩
theorem callE_call {x:Cst} (hok:x.ok) {b:Bse} (hb:b ∈ x.bases) {call:Int} (h0:0 ≤ call) (h1:call < x.calls):callE b.stn call b.seats x.length = 0:=by
 obtain ⟨h2,_,_,h3⟩:=chkW_zero (hok.bas b hb).2
 have h4:=hok.cal
 have h5:=hok.cht.2.2.2.1
 have h6:inBK call 0 100 = true:=(inB_iffK _ _ _).2 (by omega)
 have h7:inBK x.length 1 40 = true:=(inB_iffK _ _ _).2 hok.len
 unfold callE
 rw [if_pos h2,h6,h7,h3]
 rfl
theorem musE_or {s:Stn} {call:Int} {l:List Int} {len:Int} (h:callE s call l len = 0):musE s call l len = 0 ∨ musE s call l len = 3:=by
 unfold musE
 rw [if_pos h]
 cases musG s call len l with
 | none=>exact .inr rfl
 | some q=>exact .inl rfl
end Go.Proofs.YtljpknnhimkkjaaGreatDoor

namespace Go.Proofs.YtljpknnhimkkjaaGreatDoor
open Go.RowKit Go.SX
set_option maxRecDepth 10000
set_option maxHeartbeats 0
set_option linter.unusedSimpArgs false
set_option linter.unusedVariables false
theorem calE_of {x:Cst} (hok:x.ok) {call:Int} (h0:0 ≤ call) (h1:call < x.calls):calE x call = 0:=by
 unfold calE
 rw [(Cst.okB_iff x).2 hok,if_pos rfl,(inB_iff _ _ _).2 (by omega),if_pos rfl]
theorem arvL_at {x:Cst} {b:Bse} {call:Int} {k:Nat} {mc ml:Int} (h:x.marks[k]? = some (mc,ml)):(arvL x b call)[k]? = some (arv x b call mc.toNat):=by
 unfold arvL
 rw [List.getElem?_map,h]
 rfl
end Go.Proofs.YtljpknnhimkkjaaGreatDoor

namespace Go.Proofs.YtljpknnhimkkjaaGreatDoor
open Go.RowKit Go.SX
set_option maxRecDepth 10000
set_option maxHeartbeats 0
set_option linter.unusedSimpArgs false
set_option linter.unusedVariables false
theorem testBit_set {base:Int} (hb:-1 ≤ base) (i:Nat):(setI [base]).testBit i = decide ((i:Int) = base):=by
 by_cases h:base = -1
 ·subst h
  have:setI [(-1:Int)] = 0:=rfl
  rw [this,Nat.zero_testBit,eq_comm,decide_eq_false_iff_not]
  omega
 ·obtain ⟨n,rfl⟩:∃ n:Nat,base = n:=⟨base.toNat,by omega⟩
  rw [setI_one,Nat.testBit_two_pow,decide_eq_decide]
  omega
theorem gapM_mem (x:Cst) (call:Int) (k:Nat) (p:Int × Int):∀ n,p ∈ gapM x call k n ↔ ∃ i,i < n ∧ p = ((k:Int),(i:Int) - 1) ∧ rchB x k call (setI [(i:Int) - 1]) = false
 | 0=>by simp [gapM]
 | n + 1=>by
  rw [gapM,List.mem_append,gapM_mem x call k p n]
  constructor
  ·rintro (⟨i,h1,h2,h3⟩ | h)
   ·exact ⟨i,by omega,h2,h3⟩
   ·split at h
    ·cases h
    ·rename_i h1
     rw [List.mem_singleton] at h
     exact ⟨n,by omega,h,by simpa using h1⟩
  ·rintro ⟨i,h1,h2,h3⟩
   by_cases hi:i < n
   ·exact .inl ⟨i,hi,h2,h3⟩
   ·obtain rfl:i = n:=by omega
    right
    rw [if_neg (by simp [h3])]
    exact List.mem_singleton.2 h2
theorem gapK_mem (x:Cst) (call:Int) (p:Int × Int):∀ n,p ∈ gapK x call n ↔ ∃ k,k < n ∧ p ∈ gapM x call k (x.bases.length + 1)
 | 0=>by simp [gapK]
 | n + 1=>by
  rw [gapK,List.mem_append,gapK_mem x call p n]
  constructor
  ·rintro (⟨i,h1,h2⟩ | h)
   ·exact ⟨i,by omega,h2⟩
   ·exact ⟨n,by omega,h⟩
  ·rintro ⟨i,h1,h2⟩
   by_cases hi:i < n
   ·exact .inl ⟨i,hi,h2⟩
   ·obtain rfl:i = n:=by omega
    exact .inr h2
theorem gap_iff {x:Cst} {call:Int} {k:Nat} (hk:k < x.marks.length) {base:Int} (hb:-1 ≤ base ∧ base < x.bases.length):((k:Int),base) ∈ gapK x call x.marks.length ↔ rchB x k call (setI [base]) = false:=by
 rw [gapK_mem]
 constructor
 ·rintro ⟨k2,_,h⟩
  obtain ⟨i,_,h2,h3⟩:=(gapM_mem x call k2 _ _).1 h
  simp only [Prod.mk.injEq] at h2
  obtain rfl:k = k2:=by omega
  rw [h2.2]
  exact h3
 ·intro h
  refine ⟨k,hk,(gapM_mem x call k _ _).2 ⟨(base + 1).toNat,by omega,?_,?_⟩⟩
  ·simp only [Prod.mk.injEq,true_and]
   omega
  ·rw [show (((base + 1).toNat:Nat):Int) - 1 = base by omega]
   exact h
theorem gapK_small {x:Cst} (hsm:x.small) (call:Int):(gapK x call x.marks.length).length ≤ 630:=by
 have h1:=gapK_len x call x.marks.length
 have h2:x.marks.length * (x.bases.length + 1) ≤ 30 * 21:=Nat.mul_le_mul hsm.nm (by have:=hsm.nb; omega)
 omega
theorem rch_set {x:Cst} {k:Nat} {call base:Int} (hb:-1 ≤ base):rchB x k call (setI [base]) = (List.range x.bases.length).any fun i=>!decide ((i:Int) = base) && hitB x call k i:=by
 unfold rchB
 congr 1
 funext i
 rw [testBit_set hb]
theorem hit_at {x:Cst} {call:Int} {k i:Nat} {b:Bse} {mc ml:Int} (hb:x.bases[i]? = some b) (hm:x.marks[k]? = some (mc,ml)):hitB x call k i = (decide (arv x b call mc.toNat ≠ -1) && decide (arv x b call mc.toNat ≤ call + ml)):=by
 have h1:(arvA x call)[i]? = some (arvL x b call):=by unfold arvA; rw [List.getElem?_map,hb]; rfl
 have h2:(arvA x call).getD i [] = arvL x b call:=by rw [List.getD_eq_getElem?_getD,h1]; rfl
 have h3:(arvL x b call).getD k 0 = arv x b call mc.toNat:=by rw [List.getD_eq_getElem?_getD,arvL_at hm]; rfl
 have h4:x.marks.getD k (0,0) = (mc,ml):=by rw [List.getD_eq_getElem?_getD,hm]; rfl
 unfold hitB
 rw [h2,h3,h4]
noncomputable def hitM (c:Cht) (b:Bse) (cell beg:Nat) (L:Int) (m:Nat):Bool:=decide (arvM c b cell beg m ≠ -1) && decide (arvM c b cell beg m ≤ L)
theorem hitM_step (c:Cht) (b:Bse) (cell beg:Nat) (L:Int) (m:Nat):hitM c b cell beg L (m + 1) = (hitM c b cell beg L m || (decide (0 ≤ (reachL c b.cls b.rmp (beg + m)).getD cell 0) && decide ((reachL c b.cls b.rmp (beg + m)).getD cell 0 ≤ L))):=by
 have h1:=arvM_ge c b cell beg m
 unfold hitM
 rw [arvM]
 generalize (reachL c b.cls b.rmp (beg + m)).getD cell 0 = v
 generalize arvM c b cell beg m = u at h1 ⊢
 rw [Bool.eq_iff_iff]
 simp only [Bool.or_eq_true,Bool.and_eq_true,decide_eq_true_eq]
 split
 ·rename_i h
  have h2:=h.1
  have h3:=h.2
  omega
 ·rename_i h
  have h2:¬ (0 ≤ v ∧ (u = -1 ∨ v < u)):=h
  omega
theorem arv_hit {x:Cst} {b:Bse} {call:Int} {cell:Nat} {L:Int} (h:musE b.stn call b.seats x.length = 0):(decide (arv x b call cell ≠ -1) && decide (arv x b call cell ≤ L)) = hitM x.cht b cell (musT b.stn call b.seats x.length).toNat L (x.cht.tide.length - (musT b.stn call b.seats x.length).toNat):=by
 unfold arv hitM
 rw [if_pos h]
theorem arv_no {x:Cst} {b:Bse} {call:Int} {cell:Nat} {L:Int} (h:musE b.stn call b.seats x.length ≠ 0):(decide (arv x b call cell ≠ -1) && decide (arv x b call cell ≤ L)) = false:=by
 unfold arv
 rw [if_neg h]
 simp
theorem pair_fn (w:World) (v:Value) (l:List (Int × Int)) (hv:Sl w v 2 (cat spc l)) (hb:l.length ≤ 1000) (m b:Int):SX.Fn Tryz.prog 28 [v,I m,I b] w (fun _=>False) fun r N=>r = .bool (decide ((m,b) ∈ l)):=by
 obtain ⟨a,n,c,rfl⟩:=hv.shape
 have hn:=hv.le spc_len (by omega)
 subst hn
 have hr:=fun H=>hv.rd0 H
 have dn:∀ (g:Nat) (xs:List Value),det0 g xs = none:=fun _ _=>rfl
 obtain ⟨D,hD⟩:∃ D,decide ((m,b) ∈ l) = D:=⟨_,rfl⟩
 rw [hD]
 refine walk [] [] (det0_ok _ _) Tryz.func28 rfl Tryz.ntmps28 res28 (by kernel_rfl) no_facts ?_
 simp (config := { maxSteps := 4000000 }) only [↓sxw,sxw,tf28,sxu,sxl,sxm,simprocAttr,dn]
 refine loop_constH [] (HImp.nil _ _) [(6,21)] (fun i:Nat=>[(7,I i)]) (fun i H1=>i ≤ l.length ∧ H1 = [] ∧ D = decide ((m,b) ∈ l.drop i)) (fun i=>l.length - i) 0 ?_ ⟨Nat.zero_le _,rfl,hD.symm⟩ ?_
 ·simp (config := { maxSteps := 4000000 }) only [↓sxw,sxw,tf28,sxu,sxl,sxm,simprocAttr]
  try simp
 rintro i H1 g1 ⟨hi,rfl,hinv⟩
 by_cases hin:i = l.length
 ·have e7:((i:Int) < (l.length:Int)) = False:=eq_false (by omega)
  rw [List.drop_of_length_le (by omega)] at hinv
  have hinv:D = false:=by rw [hinv]; simp
  rw [hinv]
  refine ⟨?_⟩
  simp (config := { maxSteps := 4000000 }) only [↓sxw,sxw,tf28,sxu,sxl,sxm,simprocAttr,e7,dn]
  try rfl
 have e7:((i:Int) < (l.length:Int)) = True:=eq_true (by omega)
 have e8:wr (i + 1) = ((i + 1:Nat):Int):=(wrap_id (by omega)).trans (by omega)
 have hil:i < l.length:=by omega
 have hu:=List.getElem?_eq_getElem hil
 rw [List.drop_eq_getElem_cons hil] at hinv
 generalize l[i] = u at hu hinv
 have hq:=eq_gap u (m,b)
 by_cases hum:u = (m,b)
 ·rw [decide_eq_true hum] at hq
  have hinv:D = true:=by rw [hinv,hum]; simp
  rw [hinv]
  refine ⟨?_⟩
  simp (config := { maxSteps := 4000000 }) only [↓sxw,sxw,tf28,sxu,sxl,sxm,simprocAttr,e7,dn]
  first | refine at_n (hr _) spc_len (by omega) hu fun ad=>?_ | refine amid (at_n (hr _) spc_len (by omega) hu fun ad=>?_)
  unfold spc
  simp (config := { maxSteps := 4000000 }) only [↓sxw,sxw,tf28,sxu,sxl,sxm,simprocAttr,dn]
  refine ⟨_,hq,?_⟩
  simp (config := { maxSteps := 4000000 }) only [↓sxw,sxw,tf28,sxu,sxl,sxm,simprocAttr,dn]
  try rfl
 ·rw [decide_eq_false hum] at hq
  have hinv:D = decide ((m,b) ∈ l.drop (i + 1)):=by
   rw [hinv]
   have:(m,b) ≠ u:=fun h=>hum h.symm
   simp [this]
  refine ⟨?_⟩
  simp (config := { maxSteps := 4000000 }) only [↓sxw,sxw,tf28,sxu,sxl,sxm,simprocAttr,e7,dn]
  first | refine at_n (hr _) spc_len (by omega) hu fun ad=>?_ | refine amid (at_n (hr _) spc_len (by omega) hu fun ad=>?_)
  unfold spc
  simp (config := { maxSteps := 4000000 }) only [↓sxw,sxw,tf28,sxu,sxl,sxm,simprocAttr,dn]
  refine ⟨_,hq,?_⟩
  simp (config := { maxSteps := 4000000 }) only [↓sxw,sxw,tf28,sxu,sxl,sxm,simprocAttr,e8,dn]
  exact ⟨i + 1,_,rfl,HImp.nil _ _,⟨by omega,rfl,hinv⟩,by omega⟩
end Go.Proofs.YtljpknnhimkkjaaGreatDoor

namespace Go.Proofs.YtljpknnhimkkjaaGreatDoor
open Go.RowKit Go.SX
set_option maxRecDepth 10000
set_option maxHeartbeats 0
set_option linter.unusedSimpArgs false
set_option linter.unusedVariables false
def pl94_1:Plan:=(ones [0,1,2,3,4,5,6,7,8,9,10,11,12,13,14,15,16,17,18,19,20] .fin)
def pl94:List (Nat × Plan):=[(1,pl94_1)]
theorem pl94_lk:(lkO 1 pl94 = some pl94_1):=rfl
theorem toldH_fn (w:World) (bc bm b4 b5:Nat) (sD sT sS vb vm:Value) (x:Cst) (pb:List Bm) (hc:CoW w (fun _=>False) bc bm sD sT sS vb vm x pb) (hnb:x.bases.length ≤ 1000) (hnm:x.marks.length ≤ 1000) (mark base:Int) (h4:w.cell? ⟨b4,0,none⟩ = some (I mark)) (h5:w.cell? ⟨b5,0,none⟩ = some (I base)):
  SX.Fn Tryz.prog 94 [.pointer (some ⟨bc,0,none⟩),.pointer (some ⟨b4,0,none⟩),.pointer (some ⟨b5,0,none⟩)] w (fun _=>False) fun r N=>r = .bool (inB mark 0 ((x.marks.length:Int) - 1) && inB base (-1) ((x.bases.length:Int) - 1)):=by
 have c5:=hc.cel 5 _ rfl
 have c6:=hc.cel 6 _ rfl
 have hpl:pb.length = x.bases.length:=by rw [← hc.fst,List.length_map]
 obtain ⟨aB,nB,cB,rfl⟩:=hc.bas.1.shape
 have hnB:=hc.bas.1.le bac_len (by omega)
 obtain ⟨aM,nM,cM,rfl⟩:=hc.mar.1.shape
 have hnM:=hc.mar.1.le spc_len (by omega)
 subst hnB hnM
 rw [← hpl]
 have e1:wr ((pb.length:Int) - 1) = (pb.length:Int) - 1:=wrap_id (by omega)
 have e2:wr ((x.marks.length:Int) - 1) = (x.marks.length:Int) - 1:=wrap_id (by omega)
 refine walk [] pl94 (detV_ok _ _) Tryz.func94 rfl Tryz.ntmps94 res94 (by kernel_rfl) no_facts ?_
 cases q1:inB mark 0 ((x.marks.length:Int) - 1) with
 | false=>
  simp (config := { maxSteps := 4000000 }) only [↓sxw,sxw,tf94,sxu,sxl,sxm,simprocAttr,pl94_lk,pl94_1]
  refine ld_olda (b:=b4) (o:=0) (by simp [add_block]) h4 id ?_
  simp (config := { maxSteps := 4000000 }) only [↓sxw,sxw,tf94,sxu,sxl,sxm,simprocAttr]
  refine ld_olda (b:=bc) (o:=6) (by simp [add_block]) c6 id ?_
  simp (config := { maxSteps := 4000000 }) only [↓sxw,sxw,tf94,sxu,sxl,sxm,simprocAttr,detV_eq,e2,q1]
  try rfl
 | true=>
  simp (config := { maxSteps := 4000000 }) only [↓sxw,sxw,tf94,sxu,sxl,sxm,simprocAttr,pl94_lk,pl94_1]
  refine ld_olda (b:=b4) (o:=0) (by simp [add_block]) h4 id ?_
  simp (config := { maxSteps := 4000000 }) only [↓sxw,sxw,tf94,sxu,sxl,sxm,simprocAttr]
  refine ld_olda (b:=bc) (o:=6) (by simp [add_block]) c6 id ?_
  simp (config := { maxSteps := 4000000 }) only [↓sxw,sxw,tf94,sxu,sxl,sxm,simprocAttr,detV_eq,e2,q1]
  refine ld_olda (b:=b5) (o:=0) (by simp [add_block]) h5 id ?_
  simp (config := { maxSteps := 4000000 }) only [↓sxw,sxw,tf94,sxu,sxl,sxm,simprocAttr]
  refine ld_olda (b:=bc) (o:=5) (by simp [add_block]) c5 id ?_
  simp (config := { maxSteps := 4000000 }) only [↓sxw,sxw,tf94,sxu,sxl,sxm,simprocAttr,detV_eq,e1,e2,q1]
  try rfl
noncomputable def hrsE (x:Cst) (mark base:Int):Int:=if x.okB then (if inB mark 0 ((x.marks.length:Int) - 1) && inB base (-1) ((x.bases.length:Int) - 1) then 0 else 1) else 80
noncomputable def hrsP (x:Cst) (mark base:Int) (call:Nat):Bool:=!rchB x mark.toNat call (setI [base])
noncomputable def hrsL (x:Cst) (mark base:Int):List (Int × Int):=winL (hrsP x mark base) x.calls.toNat
def HrsP (x:Cst) (mark base:Int) (r:Value) (N:List HO):Prop:=(hrsE x mark base ≠ 0 ∧ r = .tuple #[.slice none 0 0,I (hrsE x mark base)]) ∨ (hrsE x mark base = 0 ∧ ∃ v,r = .tuple #[v,I 0] ∧ Got v 49 2 spc (hrsL x mark base) N)
theorem setB_lt {b:Int} (h:-1 ≤ b ∧ b < 5):setI [b] < 32 ∧ ∀ n ∈ [b],-1 ≤ n ∧ n < 5:=by
 refine ⟨?_,fun n hn=>by rw [List.mem_singleton.1 hn]; omega⟩
 have:=setI_lt [b] (fun n hn=>by rw [List.mem_singleton.1 hn]; omega) 1
 simpa using this
def pl42_10:Plan:=(ones [0,1,2,3,4,5] (.mu 6 (ones [7] .fin)))
def pl42:List (Nat × Plan):=[(10,pl42_10)]
theorem pl42_lk:(lkO 10 pl42 = some pl42_10):=rfl
theorem Hours_fn (w:World) (hw:Ways w) (v:Value) (x:Cst) (hx:CoOk w v x) (hsm:x.small) (mark base:Int):
  SX.Fn Tryz.prog 42 [v,I mark,I base] w (fun _=>False) (HrsP x mark base):=by
 obtain ⟨sD,sT,sS,vb,vm,pb,rfl,hC,h2,h3,h4,h5⟩:=hx
 have dn:∀ (g:Nat) (xs:List Value),det0 g xs = none:=fun _ _=>rfl
 have htl:=hsm.cht.2.1
 have hml:=hsm.nm
 have hbl:=hsm.nb
 have hpl:pb.length = x.bases.length:=by rw [← h2,List.length_map]
 have has:=fun (b4 b5:Nat) (H:List HO) (hm4:HO.cells b4 3 [I mark] ∈ H) (hm5:HO.cells b5 3 [I base] ∈ H) w' (hp:Hp ⟨w,fun _=>False⟩ H w')=>ask_fn w' (hw.hp hp) sD sT sS vb vm x pb (hC.hp hp) h2 (h3.hp (fun _ _=>id) hp) (fun p hm=>(h4 p hm).hp hp) (h5.hp (fun _ _=>id) hp) hsm 94 [.pointer (some ⟨b4,0,none⟩),.pointer (some ⟨b5,0,none⟩)] Tryz.call94 (inB mark 0 ((x.marks.length:Int) - 1) && inB base (-1) ((x.bases.length:Int) - 1)) (fun hok w2 bc bm hco hk=>by
  have q4:w'.cell? ⟨b4,0,none⟩ = some (I mark):=by rw [cell_of_cells (hp.ok _ hm4)]; rfl
  have q5:w'.cell? ⟨b5,0,none⟩ = some (I base):=by rw [cell_of_cells (hp.ok _ hm5)]; rfl
  refine toldH_fn w2 bc bm b4 b5 sD sT sS vb vm x pb hco (by omega) (by omega) mark base ?_ ?_
  ·rw [World.cell?_of_block (w:=w') (hk.block b4 (World.block_lt_of_cell? w' ⟨b4,0,none⟩ q4) id)]
   exact q4
  ·rw [World.cell?_of_block (w:=w') (hk.block b5 (World.block_lt_of_cell? w' ⟨b5,0,none⟩ q5) id)]
   exact q5)
 have hrc:=fun (hok:x.ok) (hb:-1 ≤ base ∧ base < 5) (bc bm:Nat) (k i:Nat) (hk:k < x.marks.length) (hi:i ≤ 100) (K1:List (Int × Value)) (B:List HO) (hm:HO.cells bc 117 (cov sD sT sS vb vm x ++ [.map (some bm)]) ∈ B) (hK:∀ e ∈ K1,RwD x B e) w' (hp:Hp ⟨w,fun _=>False⟩ ([mapO .i64 bm K1] ++ B) w')=>by
  obtain ⟨q1,q2,q3⟩:=tim_at hw hp hm hC h2 h3 h4 h5 hK
  exact reached_fn w' bc bm sD sT sS vb vm x pb q1 hsm hok K1 q2 q3 k hk (i:Int) (by omega) (setI [base]) (setB_lt hb).1
 have hE:hrsE x mark base = if x.okB then (if inB mark 0 ((x.marks.length:Int) - 1) && inB base (-1) ((x.bases.length:Int) - 1) then 0 else 1) else 80:=rfl
 unfold HrsP hrsL
 obtain ⟨E,hEE⟩:∃ E,hrsE x mark base = E:=⟨_,rfl⟩
 rw [hEE] at hE ⊢
 obtain ⟨B,hB⟩:∃ B,(inB mark 0 ((x.marks.length:Int) - 1) && inB base (-1) ((x.bases.length:Int) - 1)) = B:=⟨_,rfl⟩
 simp only [hB] at has hE
 obtain ⟨aM,nM,cM,rfl⟩:=h5.shape
 have hnM:=h5.le spc_len (by omega)
 subst hnM
 obtain ⟨aB,nB,cB,rfl⟩:=h3.shape
 have hnB:=h3.le bac_len (by omega)
 subst hnB
 unfold AskP at has
 unfold cov at has hrc ⊢
 refine walk [4,5] pl42 (det0_ok _ _) Tryz.func42 rfl Tryz.ntmps42 res42 (by kernel_rfl) no_facts ?_
 simp (config := { maxSteps := 4000000 }) only [↓sxw,sxw,tf42,sxu,sxl,sxm,simprocAttr,dn]
 intro b4 b5
 refine CallOb.pureH (fun w' hp=>has b4 b5 _ (by simp) (by simp) w' hp) ?_
 rintro r N (⟨ho,rfl,rfl⟩ | ⟨ho,bc,bm,rfl,rfl⟩)
 ·rw [ho,if_neg Bool.false_ne_true] at hE
  rw [hE]
  refine ⟨?_⟩
  simp (config := { maxSteps := 4000000 }) only [↓sxw,sxw,tf42,sxu,sxl,sxm,simprocAttr,dn]
  first | exact .inl ⟨by decide,rfl⟩ | exact .inl trivial | exact .inl (by decide)
 rw [ho,if_pos rfl] at hE
 have hok:=(Cst.okB_iff x).1 ho
 cases B with
 | false=>
  rw [if_neg Bool.false_ne_true] at hE
  rw [hE]
  refine ⟨?_⟩
  simp (config := { maxSteps := 4000000 }) only [↓sxw,sxw,tf42,sxu,sxl,sxm,simprocAttr,dn]
  first | exact .inl ⟨by decide,rfl⟩ | exact .inl trivial | exact .inl (by decide)
 | true=>
 rw [if_pos rfl] at hE
 rw [Bool.and_eq_true,inB_iff,inB_iff] at hB
 have hcal:=hok.cal
 have hnb:=hok.nb
 rw [hE]
 obtain ⟨mn,rfl⟩:∃ n:Nat,mark = n:=⟨mark.toNat,by omega⟩
 obtain ⟨nc2,hnc⟩:∃ n:Nat,x.calls = n:=⟨x.calls.toNat,by omega⟩
 have hrc:=fun bc bm i hi K1 B hm hK w' hp=>hrc hok (by omega) bc bm mn i (by omega) hi K1 B hm hK w' hp
 have hst:=setB_lt (b:=base) (by omega)
 rw [hnc,Int.toNat_natCast]
 obtain ⟨p,hp⟩:∃ p,hrsP x (mn:Int) base = p:=⟨_,rfl⟩
 have hpr:∀ i:Nat,rchB x mn (i:Int) (setI [base]) = !p i:=fun i=>by rw [← hp]; unfold hrsP; rw [Int.toNat_natCast,Bool.not_not]
 simp only [hpr] at hrc
 rw [hp]
 refine ⟨?_⟩
 simp (config := { maxSteps := 4000000 }) only [↓sxw,sxw,tf42,sxu,sxl,sxm,simprocAttr,dn]
 refine ld_cella (T:=117) (List.mem_cons_self) rfl ?_
 simp (config := { maxSteps := 4000000 }) only [↓sxw,sxw,tf42,sxu,sxl,sxm,simprocAttr,dn]
 obtain ⟨CC,hCC⟩:∃ C,HO.cells bc 117 [I x.cht.wide,I x.cht.high,sD,sT,sS,.slice aB pb.length cB,.slice aM x.marks.length cM,I x.length,I x.calls,.map (some bm)] = C:=⟨_,rfl⟩
 have hCC2:HO.cells bc 117 [I x.cht.wide,I x.cht.high,sD,sT,sS,.slice aB pb.length cB,.slice aM x.marks.length cM,I x.length,I nc2,.map (some bm)] = CC:=by rw [← hCC,hnc]
 obtain ⟨C4,hC4⟩:∃ C,HO.cells b4 3 [I (mn:Int)] = C:=⟨_,rfl⟩
 obtain ⟨C5,hC5⟩:∃ C,HO.cells b5 3 [I base] = C:=⟨_,rfl⟩
 obtain ⟨RO,hRO⟩:∃ RO:Option Addr → Nat → List (Int × Int) → HO,∀ a c l,RO a c l = HO.row (.slice a l.length c) 49 2 (cat spc l):=⟨_,fun _ _ _=>rfl⟩
 have hfin:∀ (a:Option Addr) (c:Nat) (l:List (Int × Int)),HO.row (.slice a l.length c) 49 2 (cat spc l) = RO a c l:=fun a c l=>(hRO a c l).symm
 refine loop_constH (RO none 0 [] :: mapO .i64 bm [] :: ([] ++ [CC,C4,C5])) (by
  rw [hRO,← hCC2,← hC4,← hC5]
  refine (HImp.swap _ _ _ _).trans ((HImp.perm ?_).trans (HImp.nilRow _ _ _ _))
  first | exact List.Perm.refl _ | exact ((List.Perm.swap _ _ _).cons _).cons _) [(10,12),(27,66)] (fun q:Nat × Option Addr × Nat=>[(10,.slice q.2.1 (winL p q.1).length q.2.2),(27,I q.1)])
  (fun q H1=>q.1 ≤ nc2 ∧ (q.2.1 = none → winL p q.1 = []) ∧ ∃ K1 D1,H1 = RO q.2.1 q.2.2 (winL p q.1) :: mapO .i64 bm K1 :: (D1 ++ [CC,C4,C5]) ∧ ∀ e ∈ K1,RwD x D1 e) (fun q=>nc2 - q.1) (0,none,0) ?_ ⟨Nat.zero_le _,fun _=>rfl,[],[],rfl,fun e he=>(by cases he)⟩ ?_
 ·simp (config := { maxSteps := 4000000 }) only [↓sxw,sxw,tf42,sxu,sxl,sxm,simprocAttr]
  first | exact ⟨rfl,rfl⟩ | (simp [winL]; done) | rfl
 rintro ⟨i,ao,co⟩ H1 g1 hinv
 simp only [] at hinv
 obtain ⟨hi,hao,K1,D1,rfl,hK1⟩:=hinv
 have hwl:=winL_len p i
 by_cases hin:i = nc2
 ·have e7:((i:Int) < (nc2:Int)) = False:=eq_false (by omega)
  rw [← hin]
  rw [← hin] at e7
  refine ⟨?_⟩
  simp (config := { maxSteps := 4000000 }) only [↓sxw,sxw,tf42,sxu,sxl,sxm,simprocAttr,e7,dn]
  exact .inr ⟨_,rfl,ao,co,rfl,hao,.inr (by rw [← hRO]; exact List.mem_cons_self)⟩
 have e7:((i:Int) < (nc2:Int)) = True:=eq_true (by omega)
 have e8:wr (i + 1) = ((i + 1:Nat):Int):=(wrap_id (by omega)).trans (by omega)
 have e1:wr ((i:Int) - 1) = (i:Int) - 1:=wrap_id (by omega)
 have hCCm:∀ a l,HO.cells bc 117 [I x.cht.wide,I x.cht.high,sD,sT,sS,.slice aB pb.length cB,.slice aM x.marks.length cM,I x.length,I x.calls,.map (some bm)] ∈ a :: l ++ (D1 ++ [CC,C4,C5]):=fun a l=>by rw [hCC]; simp
 have hC4m:HO.cells b4 3 [I (mn:Int)] ∈ RO ao co (winL p i) :: mapO .i64 bm K1 :: (D1 ++ [CC,C4,C5]):=by rw [hC4]; simp
 have hC5m:HO.cells b5 3 [I base] ∈ RO ao co (winL p i) :: mapO .i64 bm K1 :: (D1 ++ [CC,C4,C5]):=by rw [hC5]; simp
 have hrk:=hrc bc bm i (by omega) K1
 obtain ⟨PB,hPB⟩:∃ b,p i = b:=⟨_,rfl⟩
 simp only [hPB] at hrk
 have hC5r:∀ X,HO.cells b5 3 [I base] ∈ X :: RO ao co (winL p i) :: mapO .i64 bm K1 :: (D1 ++ [CC,C4,C5]):=fun X=>by rw [hC5]; simp
 refine ⟨?_⟩
 simp (config := { maxSteps := 4000000 }) only [↓sxw,sxw,tf42,sxu,sxl,sxm,simprocAttr,e7,dn,pl42_lk,pl42_10]
 refine ld_cell (T:=3) (cs:=[I (mn:Int)]) hC4m rfl ?_
 simp (config := { maxSteps := 4000000 }) only [↓sxw,sxw,tf42,sxu,sxl,sxm,simprocAttr,dn]
 refine ld_cell (T:=3) (cs:=[I base]) hC5m rfl ?_
 simp (config := { maxSteps := 4000000 }) only [↓sxw,sxw,tf42,sxu,sxl,sxm,simprocAttr,dn]
 intro b6
 refine CallOb.pureH (fun w' hp=>fset_fn w' _ [base] (row_hp (E:=3) (xs:=ints [base]) (by simp [cat,i1]) hp) (by simp) hst.2) ?_
 rintro r N rfl
 refine ⟨?_⟩
 simp (config := { maxSteps := 4000000 }) only [↓sxw,sxw,tf42,sxu,sxl,sxm,simprocAttr,dn]
 refine CallOb.mutH (A:=[mapO .i64 bm K1]) (B:=RO ao co (winL p i) :: (D1 ++ [CC,C4,C5])) ((HImp.app _ _ _).trans ((HImp.tail _ _ _).trans (HImp.swap _ _ _ _))) fps_map (fun w' hp=>by rw [fpsx_map]; exact hrk _ (by rw [← hCC]; simp) (fun e he=>(hK1 e he).mono (by simp +contextual)) w' hp) ?_ (Post:=TimP x bm K1 fun r _=>r = .bool (!PB))
 rintro r N2 ⟨K3,D3,rfl,hK3,rfl⟩
 have hK4:∀ e ∈ K3,RwD x (D3 ++ D1) e:=fun e he=>by
  rcases hK3 e he with h | h
  ·exact (hK1 e h).mono fun g hg=>List.mem_append_right _ hg
  ·exact h.mono fun g hg=>List.mem_append_left _ hg
 have hperm:∀ (R:HO),(mapO .i64 bm K3 :: (D3 ++ R :: (D1 ++ [CC,C4,C5]))).Perm (R :: mapO .i64 bm K3 :: ((D3 ++ D1) ++ [CC,C4,C5])):=fun R=>by
  rw [List.append_assoc]
  exact (List.Perm.cons _ List.perm_middle).trans (List.Perm.swap _ _ _)
 cases PB with
 | false=>
  have hw1:winL p (i + 1) = winL p i:=by rw [winL,hPB]; simp
  refine ⟨?_⟩
  simp (config := { maxSteps := 4000000 }) only [↓sxw,sxw,tf42,sxu,sxl,sxm,simprocAttr,e8,dn]
  exact ⟨(i + 1,ao,co),_,by first | exact ⟨by rw [hw1],rfl⟩ | (rw [hw1]; done),HImp.perm (hperm _),⟨by simp only []; omega,by rw [hw1]; exact hao,K3,D3 ++ D1,by rw [hw1],hK4⟩,by simp only []; omega⟩
 | true=>
 have hw1:winL p (i + 1) = growL (winL p i) i:=by rw [winL,hPB]; simp
 have happ:growL (winL p i) i = winL p i ++ [((i:Int),(i:Int))] → ∀ ad2 c2,(winL p (i + 1)).length = (winL p i).length + 1 ∧ HO.row (.slice (some ad2) ((winL p i).length + 1) c2) 49 2 (cat spc (winL p i ++ [((i:Int),(i:Int))])) = RO (some ad2) c2 (winL p (i + 1)):=fun hg ad2 c2=>by
  rw [hw1,hg,hRO]
  simp only [List.length_append,List.length_singleton,true_and]
 by_cases h0:winL p i = []
 ·have hg:growL (winL p i) i = winL p i ++ [((i:Int),(i:Int))]:=by rw [h0]; rfl
  have e0:(((winL p i).length:Int) > 0) = False:=eq_false (by rw [h0]; simp)
  refine ⟨?_⟩
  simp (config := { maxSteps := 4000000 }) only [↓sxw,sxw,tf42,sxu,sxl,sxm,simprocAttr,e0,dn]
  intro b7
  refine app_one (f:=spc) (l:=winL p i) (((i:Int),(i:Int)):Int × Int) (A:=mapO .i64 bm K3 :: ((D3 ++ D1) ++ [CC,C4,C5])) (by rw [hfin]; first | exact HImp.perm (hperm _) | (simp only [List.cons_append]; exact HImp.perm (hperm _))) spc_len spc_one (by omega) fun ad5 c5=>?_
  obtain ⟨q1,q2⟩:=happ hg ad5 c5
  rw [q2]
  simp (config := { maxSteps := 4000000 }) only [↓sxw,sxw,tf42,sxu,sxl,sxm,simprocAttr,e8,dn]
  exact ⟨(i + 1,some ad5,c5),_,by first | exact ⟨by rw [q1]; rfl,rfl⟩ | (rw [q1]; done) | (rw [q1]; try simp),HImp.refl _ _,⟨by simp only []; omega,fun h=>(by cases h),K3,D3 ++ D1,rfl,hK4⟩,by simp only []; omega⟩
 have hlp:0 < (winL p i).length:=List.length_pos_iff.2 h0
 have e2:(((winL p i).length:Int) > 0) = True:=eq_true (by omega)
 have e3:wr (((winL p i).length:Int) - 1) = (((winL p i).length - 1:Nat):Int):=(wrap_id (by omega)).trans (by omega)
 obtain ⟨y,hy⟩:∃ y,(winL p i)[(winL p i).length - 1]? = some y:=⟨_,List.getElem?_eq_getElem (by omega)⟩
 cases ao with
 | none=>exact absurd (hao rfl) h0
 | some ad0=>
 have hro:=row_rdv (w0:=⟨w,fun _=>False⟩) (H:=mapO .i64 bm K3 :: (D3 ++ RO (some ad0) co (winL p i) :: (D1 ++ [CC,C4,C5]))) (E:=49) (v:=.slice (some ad0) (winL p i).length co) (sz:=2) (xs:=cat spc (winL p i)) (by rw [hRO]; simp) ⟨_,_,_,rfl,by rw [cat_len spc_len],fun h=>by cases h⟩
 by_cases hq:y.2 = (i:Int) - 1
 ·have e5:(y.2 = (i:Int) - 1) = True:=eq_true hq
  have hg:growL (winL p i) i = (winL p i).set ((winL p i).length - 1) (y.1,(i:Int)):=by unfold growL; rw [hy]; simp [hq]
  refine ⟨?_⟩
  simp (config := { maxSteps := 4000000 }) only [↓sxw,sxw,tf42,sxu,sxl,sxm,simprocAttr,e2,e3,dn]
  first | refine amid (at_f hro spc_len hy (o:=1) (x:=I y.2) rfl fun ad2=>?_) | refine at_f hro spc_len hy (o:=1) (x:=I y.2) rfl fun ad2=>?_
  simp (config := { maxSteps := 4000000 }) only [↓sxw,sxw,tf42,sxu,sxl,sxm,simprocAttr,e1,e5,e3,dn]
  refine ⟨by omega,by omega,_,rfl,?_⟩
  refine wr_f1 (A:=mapO .i64 bm K3 :: D3) (B:=D1 ++ [CC,C4,C5]) (o:=1) (u:=y) (y.1,(i:Int)) (by rw [hfin]; try rfl) spc_len rfl hy rfl (by omega) ?_
  have q2:HO.row (.slice (some ad0) (winL p i).length co) 49 2 (cat spc ((winL p i).set ((winL p i).length - 1) (y.1,(i:Int)))) = RO (some ad0) co (winL p (i + 1)):=by
   rw [hw1,hg,hRO,List.length_set]
  have q1:(winL p (i + 1)).length = (winL p i).length:=by rw [hw1,hg,List.length_set]
  rw [q2]
  simp (config := { maxSteps := 4000000 }) only [↓sxw,sxw,tf42,sxu,sxl,sxm,simprocAttr,e8,dn]
  exact ⟨(i + 1,some ad0,co),_,by first | exact ⟨by rw [q1],rfl⟩ | (rw [q1]; done) | (rw [q1]; try simp),HImp.perm (hperm _),⟨by simp only []; omega,fun h=>(by cases h),K3,D3 ++ D1,rfl,hK4⟩,by simp only []; omega⟩
 ·have e5:(y.2 = (i:Int) - 1) = False:=eq_false hq
  have hg:growL (winL p i) i = winL p i ++ [((i:Int),(i:Int))]:=by unfold growL; rw [hy]; simp [hq]
  refine ⟨?_⟩
  simp (config := { maxSteps := 4000000 }) only [↓sxw,sxw,tf42,sxu,sxl,sxm,simprocAttr,e2,e3,dn]
  first | refine amid (at_f hro spc_len hy (o:=1) (x:=I y.2) rfl fun ad2=>?_) | refine at_f hro spc_len hy (o:=1) (x:=I y.2) rfl fun ad2=>?_
  simp (config := { maxSteps := 4000000 }) only [↓sxw,sxw,tf42,sxu,sxl,sxm,simprocAttr,e1,e5,e3,dn]
  intro b7
  refine app_one (f:=spc) (l:=winL p i) (((i:Int),(i:Int)):Int × Int) (A:=mapO .i64 bm K3 :: ((D3 ++ D1) ++ [CC,C4,C5])) (by rw [hfin]; first | exact HImp.perm (hperm _) | (simp only [List.cons_append]; exact HImp.perm (hperm _))) spc_len spc_one (by omega) fun ad5 c5=>?_
  obtain ⟨q1,q2⟩:=happ hg ad5 c5
  rw [q2]
  simp (config := { maxSteps := 4000000 }) only [↓sxw,sxw,tf42,sxu,sxl,sxm,simprocAttr,e8,dn]
  exact ⟨(i + 1,some ad5,c5),_,by first | exact ⟨by rw [q1]; rfl,rfl⟩ | (rw [q1]; done) | (rw [q1]; try simp),HImp.refl _ _,⟨by simp only []; omega,fun h=>(by cases h),K3,D3 ++ D1,rfl,hK4⟩,by simp only []; omega⟩
end Go.Proofs.YtljpknnhimkkjaaGreatDoor

