/- Parts of a proof: the symbolic walk and what it shows of single functions. -/
import Derived.Test.YtljpknnhimkkjaaGreatDoorC4
import Derived.Test.YtljpknnhimkkjaaGreatDoorX3
import Derived.LaidMore
import Derived.OpenShut
import Derived.Lay
import Derived.SevenTiedAt
import Derived.Stop.Joined
import Derived.Test.YtljpknnhimkkjaaGreatDoorCards
import Derived.Test.YtljpknnhimkkjaaGreatDoorTie
set_option linter.all false
namespace Go.Proofs.YtljpknnhimkkjaaGreatDoor
open Go.RowKit Go.SX Go.ChangeShapes Go.WideShapes Go.ChangeAt
set_option maxRecDepth 100000
theorem own0:ownKnob Tryz.prog.godebug = none:=by kernel_rfl
theorem laidOut0:laidOutB Tryz.prog = true:=by kernel_rfl
theorem way_of {w:World} {fuel:Nat} {cs:List Value} {a b c:Int} {p:List MemPlace} {enc:TypeId × Value → Unit} {sp:Nat → Bool} {held:Bool} (h:DataW.trod enc Tryz.prog w 0 sp held fuel 184 cs = some (.agg [.lit (.int .i64 a),.lit (.int .i64 b),.lit (.int .i64 c)],p)):cs = [I a,I b,I c]:=by
 obtain ⟨xs,m,_,ex,hl,hxl,hx⟩:=DataW.trod_struct Tryz.underlying184 h
 have c3:Tryz.prog.cellsOf 3 = 1:=by kernel_rfl
 have c9:Tryz.prog.cellsOf 184 = 3:=by kernel_rfl
 rw [c9] at hl
 have key:∀ (i:Nat) (f:Field) (y:DataW Unit × List MemPlace) (z:Int),xs[i]? = some y → y.1 = .lit (.int .i64 z) → f.type = 3 → f.offset = i → DataW.trod enc Tryz.prog w 0 sp held m f.type ((cs.drop f.offset).take (Tryz.prog.cellsOf f.type)) = xs[i]? → cs[i]? = some (I z):=by
  intro i f y z hy hz ht ho hE
  rw [ht,ho,c3,hy] at hE
  obtain ⟨k,e1,e2,_⟩:=DataW.trod_int Tryz.underlying3 hE
  rw [e2] at hz
  simp only [DataW.lit.injEq,Lit.int.injEq,true_and] at hz
  subst hz
  have h0:((cs.drop i).take 1)[0]? = some (Value.int .i64 k):=by rw [e1]; rfl
  simpa using h0
 have e3:xs.map (·.1) = [.lit (.int .i64 a),.lit (.int .i64 b),.lit (.int .i64 c)]:=(DataW.agg.inj (Prod.mk.inj ex).1).symm
 match xs,hxl,e3 with
 | [x0,x1,x2],_,e3=>
  simp only [List.map_cons,List.map_nil,List.cons.injEq,and_true] at e3
  have k0:=key 0 _ x0 a rfl e3.1 rfl rfl (hx 0 _ rfl)
  have k1:=key 1 _ x1 b rfl e3.2.1 rfl rfl (hx 1 _ rfl)
  have k2:=key 2 _ x2 c rfl e3.2.2 rfl rfl (hx 2 _ rfl)
  match cs,hl with
  | [y0,y1,y2],_=>
   simp at k0 k1 k2
   rw [k0,k1,k2]
abbrev laid1:List (String × DataW Unit):=[("coble/chart.ways",Rows.laid_coble_chart_ways)]
theorem ways_of_laid {W:World} (h:laidMetH Tryz.prog laid1 W):Ways W:=by
 rw [MakeChecks.laidMetH_plain _ _ _ (by kernel_rfl)] at h
 obtain ⟨ps,⟨g,t,cs,fuel,p,q,hg,ht,hv,hd,_,_⟩,_,_⟩:=h
 obtain rfl:=Option.some.inj ((show Tryz.prog.globalNamed "coble/chart.ways" = some 0 by kernel_rfl).symm.trans hg)
 obtain rfl:=Option.some.inj ((show (Tryz.prog.globals[0]?).map (·.type) = some 185 by kernel_rfl).symm.trans ht)
 obtain ⟨xs,m,_,ex,hcl,hl,hel⟩:=DataW.trod_array Tryz.underlying185 hd
 have c9:Tryz.prog.cellsOf 184 = 3:=by kernel_rfl
 have c18:Tryz.prog.cellsOf 185 = 18:=by kernel_rfl
 rw [c18] at hcl
 rw [c9] at hel
 have e3:xs.map (·.1) = ways6.map fun u=>(.agg [.lit (.int .i64 u.1),.lit (.int .i64 u.2.1),.lit (.int .i64 u.2.2)]:DataW Unit):=(DataW.agg.inj (Prod.mk.inj ex).1).symm
 have rows:∀ i,i < 6 → ∃ u,ways6[i]? = some u ∧ (cs.toList.drop (i * 3)).take 3 = wyc u:=by
  intro i hi
  have e4:(xs.map (·.1))[i]? = (ways6.map fun u=>(.agg [.lit (.int .i64 u.1),.lit (.int .i64 u.2.1),.lit (.int .i64 u.2.2)]:DataW Unit))[i]?:=by rw [e3]
  have h6:ways6.length = 6:=rfl
  rw [List.getElem?_map,List.getElem?_map,List.getElem?_eq_getElem (by omega:i < xs.length),List.getElem?_eq_getElem (by omega:i < ways6.length)] at e4
  simp only [Option.map_some,Option.some.injEq] at e4
  have hE:=hel i hi
  rw [List.getElem?_eq_getElem (by omega:i < xs.length),show xs[i] = (xs[i].1,xs[i].2) from rfl,e4] at hE
  exact ⟨ways6[i],List.getElem?_eq_getElem _,way_of hE⟩
 intro i v hi
 have hi18:i < 18:=by
  have:=(List.getElem?_eq_some_iff.1 hi).1
  rw [cat_len wyc_len] at this
  exact this
 obtain ⟨u,hu,hr⟩:=rows (i / 3) (by omega)
 have e5:(cat wyc ways6)[i]? = (wyc u)[i % 3]?:=by
  have:=cat_get wyc_len hu (show i % 3 < 3 by omega)
  rwa [show i / 3 * 3 + i % 3 = i by omega] at this
 have e6:cs.toList[i]? = (wyc u)[i % 3]?:=by
  rw [← hr,List.getElem?_take,if_pos (by omega),List.getElem?_drop,show i / 3 * 3 + i % 3 = i by omega]
 rw [World.var?_cell hg hv i,show cs[i]? = cs.toList[i]? by simp,e6,← e5,hi]
theorem agg_of {w:World} {base:Nat} {t:TypeId} {v:Value} {fs:Array Field} (hu:Tryz.prog.underlying t = some (.struct fs)) (h:Value.okWide Tryz.prog w .any base t v):∃ cs,v = .agg cs:=by
 unfold Value.okWide at h
 rw [hu] at h
 obtain ⟨cs,h,_⟩:=h
 exact ⟨cs,h⟩
theorem leaves2 {P:Program} {w:World} {vs:List Value} (h:Lvs P w [.int .i64,.int .i64] vs):∃ a b,vs = [I a,I b]:=by
 cases h with | int _ h=>cases h with | int _ h=>cases h with | nil=>exact ⟨_,_,rfl⟩
theorem leaves1 {P:Program} {w:World} {vs:List Value} (h:Lvs P w [.int .i64] vs):∃ a,vs = [I a]:=by
 cases h with | int _ h=>cases h with | nil=>exact ⟨_,rfl⟩
theorem flat_int:flat Tryz.prog 4 3 = some [.int .i64]:=by kernel_rfl
theorem flat_span:flat Tryz.prog 4 49 = some [.int .i64,.int .i64]:=by kernel_rfl
theorem cells_int:Tryz.prog.cellsOf 3 = 1:=by kernel_rfl
theorem cells_span:Tryz.prog.cellsOf 49 = 2:=by kernel_rfl
theorem sl_ints {w:World} {a:Option Addr} {len cap:Nat} {xss:List (List Value)} (hs:Sl w (.slice a len cap) (Tryz.prog.cellsOf 3) xss.flatten) (hx:∀ xs ∈ xss,∀ m es,flat Tryz.prog m 3 = some es → Lvs Tryz.prog w es xs):∃ l:List Int,Sl w (.slice a len cap) 1 (ints l) ∧ l.length = xss.length:=by
 obtain ⟨us,hu,hl⟩:=cat_of (f:=i1) (xss:=xss) fun xs hxs=>by
  obtain ⟨a,hl⟩:=leaves1 (hx xs hxs 4 _ flat_int)
  exact ⟨a,hl⟩
 rw [cells_int,hu] at hs
 exact ⟨us,hs,hl⟩
theorem sl_spans {w:World} {a:Option Addr} {len cap:Nat} {xss:List (List Value)} (hs:Sl w (.slice a len cap) (Tryz.prog.cellsOf 49) xss.flatten) (hx:∀ xs ∈ xss,∀ m es,flat Tryz.prog m 49 = some es → Lvs Tryz.prog w es xs):∃ l:List (Int × Int),Sl w (.slice a len cap) 2 (cat spc l) ∧ l.length = xss.length:=by
 obtain ⟨us,hu,hl⟩:=cat_of (f:=spc) (xss:=xss) fun xs hxs=>by
  obtain ⟨a,b,hl⟩:=leaves2 (hx xs hxs 4 _ flat_span)
  exact ⟨(a,b),hl⟩
 rw [cells_span,hu] at hs
 exact ⟨us,hs,hl⟩
theorem law_calls {f:Nat} {fn:Func} {s:ChangeSpec} {H:Type} {enc:TypeId × Value → H} {W:World} {args:Array Value} {ds gs:List (DataW H)} {before:List MemPlace} {b:TypeId}
  (hts:fn.params.toList.all (fun t=>Tryz.prog.readableRec t && decide (t < Tryz.prog.types.size)) = true) (hr:fn.resultTypes = #[b]) (hb:Tryz.prog.underlying b = some .bool) (hv:s.vars = [])
  (hW:DataW.Whole enc Tryz.prog fn.params.toList s.vars false W args.toList ds gs before) (h1:(s.fn H (ds ++ gs)).results = [.lit (.bool true)]) (h2:(s.fn H (ds ++ gs)).args = ds) (h3:(s.fn H (ds ++ gs)).vars = [])
  (h:SX.Fn Tryz.prog f args.toList W (fun _=>False) fun r _=>r = .bool true):Calls Tryz.prog f args W fun e W'=>∃ v,e = .returned v ∧ s.post enc Tryz.prog fn false true false false W args v W':=by
 unfold SX.Fn at h
 rw [Array.toArray_toList] at h
 refine Calls.mono h fun e W' hh=>?_
 obtain ⟨v,N,he,hk,_,_,_,rfl⟩:=hh
 exact ⟨_,he,law_post laidOut0 hts hr hb hv hW h1 h2 h3 hk⟩
end Go.Proofs.YtljpknnhimkkjaaGreatDoor

namespace Go.Proofs.YtljpknnhimkkjaaGreatDoor
open Go.RowKit Go.SX
set_option maxRecDepth 4000
set_option maxHeartbeats 8000000
set_option linter.unusedSimpArgs false
set_option linter.unusedVariables false
noncomputable def floatsV (c:Cht) (g k t:Int):Value:=if openE c [k] [t] [g] = 0 then .tuple #[.bool (decide (c.over k.toNat t.toNat (c.tlo t.toNat) ≥ g)),.bool (decide (c.over k.toNat t.toNat (c.thi t.toNat) ≥ g)),I 0] else .tuple #[.bool false,.bool false,I (openE c [k] [t] [g])]
theorem floats1_fn (w:World) (v:Value) (c:Cht) (hc:ChOk w v c) (hsm:c.small) (g k t:Int):
  SX.Fn Tryz.prog 131 [v,I g,I k,I t] w (fun _=>False) fun r N=>r = floatsV c g k t:=by
 have hc0:=hc
 have hD:=detM_ok (X:=fun _=>False) hc (fun _ _=>id)
 obtain ⟨sD,sT,sS,rfl,hsD,hsT,hsS⟩:=hc
 obtain ⟨aD,nD,cD,rfl⟩:=hsD.shape
 obtain ⟨aT,nT,cT,rfl⟩:=hsT.shape
 obtain ⟨aS,nS,cS,rfl⟩:=hsS.shape
 have dn:(∀ xs,detM (.agg #[I c.wide,I c.high,.slice aD nD cD,.slice aT nT cT,.slice aS nS cS]) c 63 xs = none):=fun _=>rfl
 unfold floatsV
 refine walk [] [] hD Tryz.func131 rfl Tryz.ntmps131 res131 (by kernel_rfl) no_facts ?_
 simp (config := { maxSteps := 4000000 }) only [↓sxw,sxw,tf131,sxu,sxl,sxm,simprocAttr,dn]
 intro b1 b2 b3
 refine CallOb.pureH (fun w' hp=>open_fn w' _ _ _ _ c [k] [t] [g] (hc0.hp hp) hsm (row_hp (E:=3) (xs:=ints [k]) (by simp [cat,i1]) hp) (row_hp (E:=3) (xs:=ints [t]) (by simp [cat,i1]) hp) (row_hp (E:=3) (xs:=ints [g]) (by simp [cat,i1]) hp) (by simp)) ?_
 rintro r N rfl
 by_cases he:openE c [k] [t] [g] = 0
 ·obtain ⟨hok,hcl,htl,_⟩:=openE_zero he
  have hk:=hcl k (by simp)
  have ht:=htl t (by simp)
  obtain ⟨K,hK⟩:∃ K:Nat,k = K:=⟨k.toNat,by omega⟩
  obtain ⟨T,hT⟩:∃ T:Nat,t = T:=⟨t.toNat,by omega⟩
  subst hK hT
  have hm:=detM_water (v:=(.agg #[I c.wide,I c.high,.slice aD nD cD,.slice aT nT cT,.slice aS nS cS])) hok hk.2 ht.2
  simp only [Int.toNat_natCast,vS,spc] at hm ⊢
  rw [he]
  refine ⟨?_⟩
  simp (config := { maxSteps := 4000000 }) only [↓sxw,sxw,tf131,sxu,sxl,sxm,simprocAttr,hm]
 ·have e1:(openE c [k] [t] [g] = 0) = False:=eq_false he
  refine ⟨?_⟩
  simp (config := { maxSteps := 4000000 }) only [↓sxw,sxw,tf131,sxu,sxl,sxm,simprocAttr,e1]
end Go.Proofs.YtljpknnhimkkjaaGreatDoor

namespace Go.Proofs.YtljpknnhimkkjaaGreatDoor
open Go.RowKit Go.SX
set_option maxRecDepth 20000
set_option maxHeartbeats 8000000
set_option linter.unusedSimpArgs false
set_option linter.unusedVariables false
noncomputable def winOk (c:Cht) (r:Rmp):Bool:=c.okB && rampB c r
noncomputable def winE (c:Cht) (r:Rmp):Int:=if winOk c r then 0 else if c.okB then 11 else 10
noncomputable def winS (c:Cht) (r:Rmp):List (Int × Int):=if winOk c r then winL (sureT c r) c.tide.length else []
noncomputable def winM (c:Cht) (r:Rmp):List (Int × Int):=if winOk c r then winL (mayT c r) c.tide.length else []
def winPost (c:Cht) (r:Rmp) (q:Value) (N:List HO):Prop:=∃ x y,q = .tuple #[x,y,I (winE c r)] ∧ Got x 49 2 spc (winS c r) N ∧ Got y 49 2 spc (winM c r) N
theorem winOk_iff (c:Cht) (r:Rmp):winOk c r = true ↔ c.ok ∧ rampB c r = true:=by
 unfold winOk
 rw [Bool.and_eq_true,okB_iff]
theorem win_post (c:Cht) (r:Rmp) (h:c.ok ∧ rampB c r = true) (q:Value) (N:List HO) (hq:∃ x y,q = .tuple #[x,y,I 0] ∧ Got x 49 2 spc (winL (sureT c r) c.tide.length) N ∧ Got y 49 2 spc (winL (mayT c r) c.tide.length) N):winPost c r q N:=by
 have:=(winOk_iff c r).2 h
 unfold winPost winE winS winM
 rw [this]
 exact hq
theorem win_bad (c:Cht) (r:Rmp) (h:¬ (c.ok ∧ rampB c r = true)) (q:Value) (N:List HO) (hq:q = nil2 (if c.okB then 11 else 10)):winPost c r q N:=by
 have:winOk c r = false:=by
  cases hb:winOk c r with
  | false=>rfl
  | true=>exact absurd ((winOk_iff c r).1 hb) h
 unfold winPost winE winS winM
 rw [this]
 exact ⟨_,_,hq,Got.nil _,Got.nil _⟩
theorem win_fn (w:World) (v:Value) (c:Cht) (r:Rmp) (hc:ChOk w v c) (hsm:c.small):SX.Fn Tryz.prog 19 [v,rmv r] w (fun _=>False) (winPost c r):=by
 by_cases h:c.ok ∧ rampB c r = true
 ·exact (windows_fn w v c r hc h.1 h.2 hsm).mono (win_post c r h)
 ·exact (windows_bad w v c r hc hsm h).mono (win_bad c r h)
end Go.Proofs.YtljpknnhimkkjaaGreatDoor

namespace Go.Proofs.YtljpknnhimkkjaaGreatDoor
open Go.RowKit Go.SX
set_option maxRecDepth 4000
set_option maxHeartbeats 8000000
set_option linter.unusedSimpArgs false
set_option linter.unusedVariables false
def inW (t:Int) (p:Int × Int):Bool:=decide (p.1 ≤ t) && decide (t ≤ p.2)
end Go.Proofs.YtljpknnhimkkjaaGreatDoor

namespace Go.Proofs.YtljpknnhimkkjaaGreatDoor
open Go.RowKit Go.SX
set_option maxRecDepth 4000
set_option maxHeartbeats 8000000
set_option linter.unusedSimpArgs false
set_option linter.unusedVariables false
def ordP (l:List (Int × Int)) (n:Int):Prop:=∀ (i:Nat) (p:Int × Int),l[i]? = some p → 0 ≤ p.1 ∧ p.1 ≤ p.2 ∧ p.2 < n ∧ ∀ q:Int × Int,0 < i → l[i - 1]? = some q → q.2 + 1 < p.1
end Go.Proofs.YtljpknnhimkkjaaGreatDoor

namespace Go.Proofs.YtljpknnhimkkjaaGreatDoor
open Go.RowKit Go.SX
set_option linter.unusedSimpArgs false
set_option linter.unusedVariables false
theorem growL_nil (t:Int):growL [] t = [(t,t)]:=rfl
theorem growL_snoc (m:List (Int × Int)) (q:Int × Int) (t:Int):growL (m ++ [q]) t = if q.2 = t - 1 then m ++ [(q.1,t)] else (m ++ [q]) ++ [(t,t)]:=by
 unfold growL
 have h:(m ++ [q])[(m ++ [q]).length - 1]? = some q:=by simp
 rw [h]
 simp only []
 split
 ·simp
 ·rfl
theorem ordP_nil (n:Int):ordP [] n:=fun i p h=>by simp at h
theorem ordP_snoc {m:List (Int × Int)} {q:Int × Int} {b n:Int} (h:ordP m b) (hb:b ≤ n) (hl:∀ r:Int × Int,m[m.length - 1]? = some r → r.2 + 1 < q.1) (h0:0 ≤ q.1) (h1:q.1 ≤ q.2) (h2:q.2 < n):ordP (m ++ [q]) n:=by
 intro i p hp
 by_cases hi:i < m.length
 ·rw [List.getElem?_append_left hi] at hp
  obtain ⟨a1,a2,a3,a4⟩:=h i p hp
  refine ⟨a1,a2,by omega,fun r hr hq=>?_⟩
  rw [List.getElem?_append_left (by omega)] at hq
  exact a4 r hr hq
 ·rw [List.getElem?_append_right (by omega)] at hp
  have hlt:=(List.getElem?_eq_some_iff.1 hp).1
  simp only [List.length_cons,List.length_nil] at hlt
  have hi':i = m.length:=by omega
  subst hi'
  simp only [Nat.sub_self,List.getElem?_cons_zero,Option.some.injEq] at hp
  subst hp
  refine ⟨h0,h1,h2,fun r hr hq=>?_⟩
  rw [List.getElem?_append_left (by omega)] at hq
  exact hl r hq
theorem ordP_init {m:List (Int × Int)} {q:Int × Int} {n:Int} (h:ordP (m ++ [q]) n):ordP m n ∧ (∀ r:Int × Int,m[m.length - 1]? = some r → r.2 + 1 < q.1) ∧ 0 ≤ q.1 ∧ q.1 ≤ q.2 ∧ q.2 < n:=by
 have hq:=h m.length q (by simp)
 refine ⟨fun i p hp=>?_,fun r hr=>?_,hq.1,hq.2.1,hq.2.2.1⟩
 ·have hi:=(List.getElem?_eq_some_iff.1 hp).1
  obtain ⟨a1,a2,a3,a4⟩:=h i p (by rw [List.getElem?_append_left hi]; exact hp)
  refine ⟨a1,a2,a3,fun r h0 hr=>a4 r h0 ?_⟩
  rw [List.getElem?_append_left (by omega)]
  exact hr
 ·have hi:=(List.getElem?_eq_some_iff.1 hr).1
  exact hq.2.2.2 r (by omega) (by rw [List.getElem?_append_left hi]; exact hr)
theorem grow_ok {l:List (Int × Int)} {t:Nat} (h:ordP l t):ordP (growL l t) ((t + 1:Nat):Int) ∧ ∀ x:Nat,(growL l t).any (inW x) = (l.any (inW x) || decide (x = t)):=by
 rcases List.eq_nil_or_concat l with rfl | ⟨m,q,rfl⟩
 ·rw [growL_nil]
  refine ⟨ordP_snoc (m:=[]) (ordP_nil 0) (by omega) (by simp) (by simp) (by simp) (by simp only []; omega),fun x=>?_⟩
  simp only [List.any_cons,List.any_nil,Bool.or_false,Bool.false_or,inW]
  rw [Bool.eq_iff_iff]
  simp only [Bool.and_eq_true,decide_eq_true_eq]
  omega
 ·rw [List.concat_eq_append] at h ⊢
  obtain ⟨h1,h2,h3,h4,h5⟩:=ordP_init h
  rw [growL_snoc]
  by_cases hq:q.2 = (t:Int) - 1
  ·rw [if_pos hq]
   refine ⟨ordP_snoc h1 (by omega) h2 h3 (by simp only []; omega) (by simp only []; omega),fun x=>?_⟩
   rw [List.any_append,List.any_append]
   simp only [List.any_cons,List.any_nil,Bool.or_false,inW]
   rw [Bool.or_assoc]
   congr 1
   rw [Bool.eq_iff_iff]
   simp only [Bool.and_eq_true,Bool.or_eq_true,decide_eq_true_eq]
   omega
  ·rw [if_neg hq]
   refine ⟨ordP_snoc h (by omega) (fun r hr=>?_) (by simp only []; omega) (by simp) (by simp only []; omega),fun x=>?_⟩
   ·have:r = q:=by simpa using hr.symm
    subst this
    simp only []
    omega
   ·rw [List.any_append (xs:=m ++ [q])]
    congr 1
    simp only [List.any_cons,List.any_nil,Bool.or_false,inW]
    rw [Bool.eq_iff_iff]
    simp only [Bool.and_eq_true,decide_eq_true_eq]
    omega
theorem winL_ok (p:Nat → Bool):∀ n,ordP (winL p n) n ∧ ∀ x:Nat,(winL p n).any (inW x) = (decide (x < n) && p x)
 | 0=>⟨ordP_nil _,fun x=>by simp [winL]⟩
 | n + 1=>by
  obtain ⟨h1,h2⟩:=winL_ok p n
  rw [winL]
  cases hp:p n with
  | true=>
   rw [if_pos rfl]
   obtain ⟨h3,h4⟩:=grow_ok h1
   refine ⟨h3,fun x=>?_⟩
   rw [h4,h2,Bool.eq_iff_iff]
   simp only [Bool.and_eq_true,Bool.or_eq_true,decide_eq_true_eq]
   constructor
   ·rintro (⟨a,b⟩ | rfl)
    ·exact ⟨by omega,b⟩
    ·exact ⟨by omega,hp⟩
   ·rintro ⟨a,b⟩
    by_cases h:x = n
    ·exact .inr h
    ·exact .inl ⟨by omega,b⟩
  | false=>
   rw [if_neg (by simp)]
   refine ⟨fun i q hq=>?_,fun x=>?_⟩
   ·obtain ⟨a1,a2,a3,a4⟩:=h1 i q hq
    exact ⟨a1,a2,by omega,a4⟩
   ·rw [h2,Bool.eq_iff_iff]
    simp only [Bool.and_eq_true,decide_eq_true_eq]
    constructor
    ·rintro ⟨a,b⟩
     exact ⟨by omega,b⟩
    ·rintro ⟨a,b⟩
     refine ⟨?_,b⟩
     by_cases h:x = n
     ·subst h
      rw [hp] at b
      cases b
     ·omega
end Go.Proofs.YtljpknnhimkkjaaGreatDoor

