/- Parts of a proof: the symbolic walk and what it shows of single functions. -/
import Derived.Test.YtljpknnhimkkjaaGreatDoorH3
import Derived.Test.YtljpknnhimkkjaaGreatDoorC4
import Derived.Test.YtljpknnhimkkjaaGreatDoorH2
import Derived.Test.YtljpknnhimkkjaaGreatDoorX3
set_option linter.all false
namespace Go.Proofs.YtljpknnhimkkjaaGreatDoor
open Go.RowKit Go.SX
set_option maxRecDepth 100000
set_option maxHeartbeats 0
set_option linter.unusedSimpArgs false
set_option linter.unusedVariables false
def exB8:Cls:=⟨20,5,4,1,10,6,1000⟩
def exR8 (i:Nat):Rmp:=⟨5 + 4 * (i:Int),1,0,200,5⟩
def exS8 (i:Nat):Stn:=⟨[⟨1,i,i,[],1⟩],10,10⟩
def exU8 (i:Nat):Bse:=⟨exB8,exR8 i,exS8 i,[1]⟩
def exCo:Cst:=⟨exC,[exU8 0,exU8 1],[(10,2),(4,1)],1,2⟩
theorem ct_win (p:Nat → Bool) (b:Nat):∀ d,ct p (b + d) ≤ ct p b + d
 | 0=>Nat.le_refl _
 | d + 1=>by
  have:=ct_win p b d
  rw [← Nat.add_assoc,ct]
  split <;> omega
theorem mayP_all {s:Stn} {h:Hnd} {t len:Int} (hs:(s.window.toNat:Int) ≤ s.duty):mayP s h t len:=fun u hu _=>by
 have:=ct_win (at300 fun u=>srv h.log u || inS (t,t + len - 1) u) (u + 1 - s.window.toNat) (u + 1 - (u + 1 - s.window.toNat))
 rw [show u + 1 - s.window.toNat + (u + 1 - (u + 1 - s.window.toNat)) = u + 1 by omega] at this
 omega
theorem exAt (i:Nat) (call tick:Int):atL (exS8 i) call 1 tick = [decide (call + (i:Int) ≤ tick)]:=by
 unfold atL exS8 canBK
 simp only [List.map_cons,List.map_nil]
 congr 1
 have:mayP ⟨[⟨1,i,i,[],1⟩],10,10⟩ ⟨1,i,i,[],1⟩ tick 1:=mayP_all (show (((10:Int).toNat:Nat):Int) ≤ 10 by decide)
 simp [this]
theorem exFill (b:Bool):fillG (okS [b] [(⟨1,0,0,[],1⟩:Hnd)] [1]) 1 1 [] = if b then some [0] else none:=by
 cases b <;> decide +kernel
theorem exFill2 (i:Nat) (b:Bool):fillG (okS [b] (exS8 i).hands [1]) (exS8 i).hands.length 1 [] = if b then some [0] else none:=by
 have:okS [b] (exS8 i).hands [1] = okS [b] [(⟨1,0,0,[],1⟩:Hnd)] [1]:=by
  funext p k
  unfold okS exS8
  rfl
 rw [this]
 exact exFill b
theorem exMus (i:Nat) (hi:i < 2) (call:Int):musG (exS8 i) call 1 [1] = some (i,[0]):=by
 unfold musG
 have:(fun j:Nat=>(fillG (okS (atL (exS8 i) call 1 (call + (j:Int))) (exS8 i).hands [1]) (exS8 i).hands.length ([1]:List Int).length []).map fun l=>(j,l)) = fun j:Nat=>if i ≤ j then some (j,[0]) else none:=by
  funext j
  rw [exAt,show ([1]:List Int).length = 1 from rfl,exFill2]
  by_cases h:i ≤ j
  ·rw [if_pos h,decide_eq_true (by omega),if_pos rfl]
   rfl
  ·rw [if_neg h,decide_eq_false (by omega),if_neg Bool.false_ne_true]
   rfl
 rw [this]
 obtain rfl | rfl:i = 0 ∨ i = 1:=by omega
 ·rfl
 ·rfl
def rdE8 (i t:Nat):Bool:=(decide (exC.swl t ≤ ((exR8 i).own exB8).surf) && decide (max ((exR8 i).own exB8).least (((exR8 i).own exB8).draught - exC.dep ((exR8 i).own exB8).cell.toNat + exC.swl t) ≤ exC.tlo t) && decide (exC.thi t ≤ ((exR8 i).own exB8).most)) && decide (exC.swl t ≤ exB8.seas)
theorem rdE8_eq (i t:Nat) (ht:t < 5):rdyB exC exB8 (exR8 i) t = rdE8 i t:=by
 unfold rdyB rdE8
 rw [sure_calc]
 have:∀ t,t < 5 → exC.tlo t ≤ exC.thi t:=by decide
 exact this t ht
def reE (i t cell:Nat):Int:=if rdE8 i t then outV exC exB8 (exR8 i).cell.toNat t (5 - t) cell else -1
theorem exReach (i t cell:Nat) (ht:t < 5) (hc:cell < 12):(reachL exC exB8 (exR8 i) t).getD cell 0 = reE i t cell:=by
 unfold reachL reE
 rw [rdE8_eq i t ht]
 split
 ·rw [List.getD_eq_getElem?_getD,List.getElem?_map,List.getElem?_range (show cell < exC.depth.length from hc)]
  rfl
 ·rw [List.getD_eq_getElem?_getD,List.getElem?_replicate,if_pos (show cell < exC.depth.length from hc)]
  rfl
def arvE (i cell beg:Nat):Nat → Int
 | 0=>-1
 | m + 1=>if 0 ≤ reE i (beg + m) cell ∧ (arvE i cell beg m = -1 ∨ reE i (beg + m) cell < arvE i cell beg m) then reE i (beg + m) cell else arvE i cell beg m
theorem exArvM (i cell beg:Nat) (hc:cell < 12):∀ m,beg + m ≤ 5 → arvM exC (exU8 i) cell beg m = arvE i cell beg m
 | 0,_=>rfl
 | m + 1,h=>by
  rw [arvM,arvE,exArvM i cell beg hc m (by omega)]
  have:(reachL exC (exU8 i).cls (exU8 i).rmp (beg + m)).getD cell 0 = reE i (beg + m) cell:=exReach i (beg + m) cell (by omega) hc
  rw [this]
theorem exCall (i:Nat) (hi:i < 2) (call:Nat) (hc:call < 2):callE (exS8 i) call [1] 1 = 0:=by
 obtain rfl | rfl:i = 0 ∨ i = 1:=by omega
 all_goals
  obtain rfl | rfl:call = 0 ∨ call = 1:=by omega
  all_goals decide +kernel
theorem exArv (i:Nat) (hi:i < 2) (call:Nat) (hc:call < 2) (cell:Nat) (hcl:cell < 12):arv exCo (exU8 i) call cell = arvE i cell (call + i) (5 - (call + i)):=by
 have h1:=exCall i hi call hc
 have h2:=exMus i hi call
 have hE:musE (exS8 i) call [1] 1 = 0:=by unfold musE; rw [if_pos h1,h2]
 have hT:musT (exS8 i) call [1] 1 = ((call + i:Nat):Int):=by unfold musT; rw [if_pos h1,h2]; simp
 unfold arv
 show (if musE (exS8 i) call [1] 1 = 0 then arvM exC (exU8 i) cell (musT (exS8 i) call [1] 1).toNat (5 - (musT (exS8 i) call [1] 1).toNat) else -1) = _
 rw [if_pos hE,hT,Int.toNat_natCast]
 exact exArvM i cell (call + i) hcl _ (by omega)
theorem exTab:(arvE 0 10 0 5 = 1 ∧ arvE 0 4 0 5 = 1 ∧ arvE 1 10 1 4 = 2 ∧ arvE 1 4 1 4 = 2) ∧ arvE 0 10 1 4 = 2 ∧ arvE 0 4 1 4 = 2 ∧ arvE 1 10 2 3 = 3 ∧ arvE 1 4 2 3 = 3:=by decide +kernel
theorem exArr:arvA exCo 0 = [[1,1],[2,2]] ∧ arvA exCo 1 = [[2,2],[3,3]]:=by
 obtain ⟨⟨h1,h2,h3,h4⟩,h5,h6,h7,h8⟩:=exTab
 have a:=fun i hi call hc cell hcl=>exArv i hi call hc cell hcl
 unfold arvA arvL
 show [[arv exCo (exU8 0) ((0:Nat):Int) 10,arv exCo (exU8 0) ((0:Nat):Int) 4],[arv exCo (exU8 1) ((0:Nat):Int) 10,arv exCo (exU8 1) ((0:Nat):Int) 4]] = _ ∧ [[arv exCo (exU8 0) ((1:Nat):Int) 10,arv exCo (exU8 0) ((1:Nat):Int) 4],[arv exCo (exU8 1) ((1:Nat):Int) 10,arv exCo (exU8 1) ((1:Nat):Int) 4]] = _
 rw [a 0 (by omega) 0 (by omega) 10 (by omega),a 0 (by omega) 0 (by omega) 4 (by omega),a 1 (by omega) 0 (by omega) 10 (by omega),a 1 (by omega) 0 (by omega) 4 (by omega),a 0 (by omega) 1 (by omega) 10 (by omega),a 0 (by omega) 1 (by omega) 4 (by omega),a 1 (by omega) 1 (by omega) 10 (by omega),a 1 (by omega) 1 (by omega) 4 (by omega)]
 simp only [Nat.zero_add,Nat.add_zero,Nat.sub_zero] at *
 exact ⟨by rw [h1,h2,h3,h4],by rw [h5,h6,h7,h8]⟩
end Go.Proofs.YtljpknnhimkkjaaGreatDoor

namespace Go.Proofs.YtljpknnhimkkjaaGreatDoor
open Go.RowKit Go.SX
set_option maxRecDepth 100000
set_option maxHeartbeats 0
set_option linter.unusedSimpArgs false
set_option linter.unusedVariables false
def exT (call:Nat):List (List Int):=if call = 0 then [[1,1],[2,2]] else [[2,2],[3,3]]
def hitE (call k i:Nat):Bool:=decide (((exT call).getD i []).getD k 0 ≠ -1) && decide (((exT call).getD i []).getD k 0 ≤ (call:Int) + (exCo.marks.getD k (0,0)).2)
def rchE (k call away:Nat):Bool:=(List.range 2).any fun i=>!away.testBit i && hitE call k i
def alwE (away:Nat):Bool:=(List.range 2).all fun call=>(List.range 2).all fun k=>rchE k call away
theorem exRch (k call away:Nat) (hc:call < 2):rchB exCo k call away = rchE k call away:=by
 unfold rchB rchE hitB hitE
 have:arvA exCo (call:Int) = exT call:=by
  obtain rfl | rfl:call = 0 ∨ call = 1:=by omega
  ·exact exArr.1
  ·exact exArr.2
 rw [this]
 rfl
theorem exAlw:alwB exCo = alwE:=by
 funext away
 unfold alwB alwE
 show (List.range 2).all _ = _
 apply Bool.eq_iff_iff.2
 simp only [List.all_eq_true,List.mem_range]
 constructor
 ·intro h c hc k hk
  have:=h c hc
  unfold covB at this
  rw [List.all_eq_true] at this
  rw [← exRch k c away hc]
  exact this k (List.mem_range.2 hk)
 ·intro h c hc
  unfold covB
  rw [List.all_eq_true]
  intro k hk
  rw [exRch k c away hc]
  exact h c hc k (List.mem_range.1 hk)
theorem exGap:gapK exCo 0 exCo.marks.length = [(1,0)]:=by
 have h:=fun k away=>exRch k 0 away (by omega)
 have h0:((0:Nat):Int) = 0:=rfl
 simp only [h0] at h
 show gapK exCo 0 2 = _
 simp only [gapK,gapM,h,show exCo.bases.length = 2 from rfl]
 decide +kernel
theorem exCov:alwB exCo (setI [1]) = true:=by rw [exAlw]; decide +kernel
theorem exNed:∀ a:Fin 4,ned exCo a.val ≤ 1:=by
 intro a
 unfold ned
 rw [exAlw]
 show nedF alwE 2 _ _ ≤ 1
 revert a
 decide +kernel
def exRf:List Rft:=[⟨0,0,3,2⟩,⟨1,0,3,2⟩]
theorem exAwa:∀ d:Fin 4,(awaN exRf [] d.val 0 < 4 ∧ awaN exRf [0] d.val 1 < 4) ∧ awaN exRf [0,0] d.val 2 < 4:=by decide +kernel
theorem exKeep (beg:List Int) (h:∀ d:Fin 4,awaN exRf beg d.val beg.length < 4):keepB exCo exRf beg 1 4 = true:=by
 unfold keepB
 rw [List.all_eq_true]
 intro d hd
 exact decide_eq_true (exNed ⟨_,h ⟨d,List.mem_range.1 hd⟩⟩)
theorem exRot:rotO exCo exRf 1 4 = some [0,0]:=by
 have k0:=exKeep [] fun d=>(exAwa d).1.1
 have k1:=exKeep [0] fun d=>(exAwa d).1.2
 have k2:=exKeep [0,0] fun d=>(exAwa d).2
 have b2:begF exCo exRf 1 4 1 [0,0] = some [0,0]:=by rw [begF,if_pos k2]; rfl
 have b1:begF exCo exRf 1 4 2 [0] = some [0,0]:=by
  rw [begF,if_pos k1,if_neg (by decide)]
  exact findSome_hit (k:=0) (a:=0) rfl b2
 unfold rotO
 show begF exCo exRf 1 4 3 [] = _
 rw [begF,if_pos k0,if_neg (by decide)]
 exact findSome_hit (k:=0) (a:=0) rfl b1
end Go.Proofs.YtljpknnhimkkjaaGreatDoor

namespace Go.Proofs.YtljpknnhimkkjaaGreatDoor
open Go.RowKit Go.SX
set_option maxRecDepth 100000
set_option maxHeartbeats 0
set_option linter.unusedSimpArgs false
set_option linter.unusedVariables false
theorem exSta (i:Nat) (hi:i < 2):staE exC exB8 (exR8 i) 0 0 = 0:=by
 unfold staE
 rw [(okB_iff _).2 exC_ok]
 obtain rfl | rfl:i = 0 ∨ i = 1:=by omega
 ·decide
 ·decide
theorem exChk (i:Nat) (hi:i < 2):chkW (exS8 i) [1] [] = 0:=by
 obtain rfl | rfl:i = 0 ∨ i = 1:=by omega
 ·decide +kernel
 ·decide +kernel
theorem exCo_ok:exCo.ok:=by
 refine ⟨exC_ok,by decide,fun b hb=>?_,by decide,fun m hm=>?_,by decide,by decide⟩
 ·have hb:b ∈ [exU8 0,exU8 1]:=hb
  simp only [List.mem_cons,List.not_mem_nil,or_false] at hb
  rcases hb with rfl | rfl
  ·exact ⟨exSta 0 (by omega),exChk 0 (by omega)⟩
  ·exact ⟨exSta 1 (by omega),exChk 1 (by omega)⟩
 ·have hm:m ∈ [((10:Int),(2:Int)),(4,1)]:=hm
  have hl:(exCo.cht.depth.length:Int) = 12:=rfl
  rw [hl]
  simp only [List.mem_cons,List.not_mem_nil,or_false] at hm
  rcases hm with rfl | rfl <;> decide
theorem exCo_small:exCo.small:=by
 refine ⟨exC_small,by decide,by decide,fun b hb=>?_⟩
 have hb:b ∈ [exU8 0,exU8 1]:=hb
 simp only [List.mem_cons,List.not_mem_nil,or_false] at hb
 rcases hb with rfl | rfl
 ·exact ⟨⟨by decide,fun h hh=>by
   have hh:h ∈ [(⟨1,(0:Nat),(0:Nat),[],1⟩:Hnd)]:=hh
   rw [List.mem_singleton.1 hh]
   decide⟩,by decide⟩
 ·exact ⟨⟨by decide,fun h hh=>by
   have hh:h ∈ [(⟨1,(1:Nat),(1:Nat),[],1⟩:Hnd)]:=hh
   rw [List.mem_singleton.1 hh]
   decide⟩,by decide⟩
theorem exCo_okB:exCo.okB = true:=(Cst.okB_iff _).2 exCo_ok
theorem exCal:calE exCo 0 = 0:=by
 unfold calE
 rw [exCo_okB,if_pos rfl]
 rfl
theorem exCovE:covE exCo [1] = 0:=by
 unfold covE
 rw [exCo_okB,if_pos rfl]
 rfl
theorem exRotE:rotE exCo exRf 1 4 = 0:=by
 unfold rotE
 rw [exCo_okB,if_pos rfl,exRot]
 rfl
end Go.Proofs.YtljpknnhimkkjaaGreatDoor

namespace Go.Proofs.YtljpknnhimkkjaaGreatDoor
open Go.RowKit Go.SX
set_option maxRecDepth 100000
set_option maxHeartbeats 0
set_option linter.unusedSimpArgs false
set_option linter.unusedVariables false
def ExB (N:List HO) (i:Nat) (p:Bm):Prop:=p.1 = exU8 i ∧ HO.row p.2.1 61 5 [I 1,I i,I i,.slice none 0 0,I 1] ∈ N ∧ HO.row p.2.2 3 1 [I 1] ∈ N
abbrev Eq3:=Nat × Nat × Nat
def eqB (q:Eq3):Bm:=(exU8 q.1,.slice (some ⟨q.2.1,0,none⟩) 1 1,.slice (some ⟨q.2.2,0,none⟩) 1 1)
def eqc (q:Eq3):List Value:=bac (eqB q)
theorem eqc_len (q:Eq3):(eqc q).length = 16:=rfl
theorem eqc_one (q:Eq3):∀ y ∈ eqc q,y.oneCell' = true:=by simp [eqc,eqB,bac,Value.oneCell']
theorem eqc_cat (l:List Eq3):cat eqc l = cat bac (l.map eqB):=by
 unfold cat
 rw [List.flatMap_map]
 rfl
theorem example8_fn (w:World):SX.Fn Tryz.prog 55 [] w (fun _=>False) fun r N=>∃ sD sT sS vb vm vr pb,r = .tuple #[.agg (cov sD sT sS vb vm exCo).toArray,vr] ∧ HO.row sD 3 1 (ints exC.depth) ∈ N ∧ HO.row sT 49 2 (cat spc exC.tide) ∈ N ∧ HO.row sS 3 1 (ints exC.swell) ∈ N ∧ HO.row vb 45 16 (cat bac pb) ∈ N ∧ HO.row vm 53 2 (cat spc exCo.marks) ∈ N ∧ HO.row vr 88 4 (cat rfc exRf) ∈ N ∧ pb.length = 2 ∧ ∀ (i:Nat) p,pb[i]? = some p → ExB N i p:=by
 have dn:∀ (g:Nat) (xs:List Value),det0 g xs = none:=fun _ _=>rfl
 refine walk [3] [] (det0_ok _ _) Tryz.func55 rfl Tryz.ntmps55 res55 (by kernel_rfl) no_facts ?_
 simp (config := { maxSteps := 4000000 }) only [↓sxw,sxw,tf55,sxu,sxl,sxm,simprocAttr,dn]
 refine CallOb.pureH (fun w' hp=>example_fn w') ?_
 rintro r N ⟨b1,b2,b3,rfl,hN1,hN2,hN3⟩
 refine ⟨?_⟩
 simp (config := { maxSteps := 4000000 }) only [↓sxw,sxw,tf55,sxu,sxl,sxm,simprocAttr,dn]
 intro b4 b5
 obtain ⟨CB,hCB⟩:∃ CB:Value → HO,∀ v,CB v = HO.cells b5 29 [I 4,I 3,.slice (some ⟨b1,0,none⟩) 12 12,.slice (some ⟨b2,0,none⟩) 5 5,.slice (some ⟨b3,0,none⟩) 5 5,v,.slice (some ⟨b4,0,none⟩) 2 2,I 1,I 2]:=⟨_,fun _=>rfl⟩
 refine wr_cell (A:=[]) rfl (by simp) ?_
 simp (config := { maxSteps := 4000000 }) only [↓sxw,sxw,tf55,sxu,sxl,sxm,simprocAttr,dn]
 refine loop_constH (CB (.slice none 0 0) :: HO.row (.slice none 0 0) 45 16 (cat eqc ([]:List Eq3)) :: (HO.row (.slice (some ⟨b4,0,none⟩) 2 2) 53 2 (cat spc exCo.marks) :: N)) (by rw [hCB]; exact (HImp.nilRow _ _ _ _).trans (HImp.swap _ _ _ _)) [(4,4),(11,32)] (fun q:Nat × Option Addr × Nat × List Eq3=>[(4,I q.1)]) (fun q H1=>q.1 ≤ 2 ∧ q.2.2.2.length = q.1 ∧ ∃ D,H1 = CB (.slice q.2.1 q.1 q.2.2.1) :: HO.row (.slice q.2.1 q.1 q.2.2.1) 45 16 (cat eqc q.2.2.2) :: D ∧ (∀ g ∈ HO.row (.slice (some ⟨b4,0,none⟩) 2 2) 53 2 (cat spc exCo.marks) :: N,g ∈ D) ∧ ∀ (k:Nat) p,q.2.2.2[k]? = some p → ExB D k (eqB p)) (fun q=>2 - q.1) (0,none,0,[]) ?_ ⟨by simp,rfl,_,rfl,fun g hg=>hg,fun k p hp=>by simp at hp⟩ ?_
 ·simp (config := { maxSteps := 4000000 }) only [↓sxw,sxw,tf55,sxu,sxl,sxm,simprocAttr]
  try simp
 rintro ⟨i,ao,co,pb⟩ H1 g1 hinv
 simp only [] at hinv
 obtain ⟨hi,hpl,D,rfl,hD,hpb⟩:=hinv
 by_cases hin:i = 2
 ·subst hin
  have e7:(((2:Nat):Int) < 2) = False:=eq_false (by omega)
  have hm:HO.cells b5 29 [I 4,I 3,.slice (some ⟨b1,0,none⟩) 12 12,.slice (some ⟨b2,0,none⟩) 5 5,.slice (some ⟨b3,0,none⟩) 5 5,.slice ao 2 co,.slice (some ⟨b4,0,none⟩) 2 2,I 1,I 2] ∈ CB (.slice ao 2 co) :: HO.row (.slice ao 2 co) 45 16 (cat eqc pb) :: D:=by rw [← hCB]; exact List.mem_cons_self
  refine ⟨?_⟩
  simp (config := { maxSteps := 4000000 }) only [↓sxw,sxw,tf55,sxu,sxl,sxm,simprocAttr,e7,dn]
  refine ld_cells _ hm rfl rfl ?_
  simp (config := { maxSteps := 4000000 }) only [↓sxw,sxw,tf55,sxu,sxl,sxm,simprocAttr,dn]
  intro b8
  have hD2:∀ {g},g ∈ N → g ∈ D:=fun hg=>hD _ (List.mem_cons_of_mem _ hg)
  have up:∀ {g},g ∈ D → ∀ (x1 x2 x3:HO),g ∈ x1 :: x2 :: x3 :: D:=fun hg x1 x2 x3=>List.mem_cons_of_mem _ (List.mem_cons_of_mem _ (List.mem_cons_of_mem _ hg))
  refine ⟨.slice (some ⟨b1,0,none⟩) 12 12,.slice (some ⟨b2,0,none⟩) 5 5,.slice (some ⟨b3,0,none⟩) 5 5,.slice ao 2 co,.slice (some ⟨b4,0,none⟩) 2 2,.slice (some ⟨b8,0,none⟩) 2 2,pb.map eqB,rfl,up (hD2 hN1) _ _ _,up (hD2 hN2) _ _ _,up (hD2 hN3) _ _ _,?_,up (hD _ List.mem_cons_self) _ _ _,List.mem_cons_self,by rw [List.length_map]; exact hpl,fun k p hk=>?_⟩
  ·rw [← eqc_cat]
   exact List.mem_cons_of_mem _ (List.mem_cons_of_mem _ List.mem_cons_self)
  ·rw [List.getElem?_map] at hk
   cases hq:pb[k]? with
   | none=>rw [hq] at hk; cases hk
   | some q=>
    rw [hq] at hk
    simp only [Option.map_some,Option.some.injEq] at hk
    rw [← hk]
    obtain ⟨h1,h2,h3⟩:=hpb k q hq
    exact ⟨h1,up h2 _ _ _,up h3 _ _ _⟩
 have e7:((i:Int) < 2) = True:=eq_true (by omega)
 have e8:wr (i + 1) = ((i + 1:Nat):Int):=(wrap_id (by omega)).trans (by omega)
 have e9:wr (4 * (i:Int)) = 4 * (i:Int):=wrap_id (by omega)
 have e10:wr (5 + 4 * (i:Int)) = 5 + 4 * (i:Int):=wrap_id (by omega)
 have hm:HO.cells b5 29 [I 4,I 3,.slice (some ⟨b1,0,none⟩) 12 12,.slice (some ⟨b2,0,none⟩) 5 5,.slice (some ⟨b3,0,none⟩) 5 5,.slice ao i co,.slice (some ⟨b4,0,none⟩) 2 2,I 1,I 2] ∈ CB (.slice ao i co) :: HO.row (.slice ao i co) 45 16 (cat eqc pb) :: D:=by rw [← hCB]; exact List.mem_cons_self
 refine ⟨?_⟩
 simp (config := { maxSteps := 4000000 }) only [↓sxw,sxw,tf55,sxu,sxl,sxm,simprocAttr,e7,e9,e10,dn]
 refine ld_cella hm rfl ?_
 simp (config := { maxSteps := 4000000 }) only [↓sxw,sxw,tf55,sxu,sxl,sxm,simprocAttr,e7,e9,e10,dn]
 intro bh bs b9
 refine app_one (f:=eqc) (l:=pb) ((i,bh,bs):Eq3) (HImp.perm (List.perm_middle (l₁:=[_,_,_]))) eqc_len eqc_one (by omega) fun ad4 c4=>?_
 rw [hpl]
 simp (config := { maxSteps := 4000000 }) only [↓sxw,sxw,tf55,sxu,sxl,sxm,simprocAttr,dn]
 refine wr_cella (A:=[_,_,_]) (T:=29) (cs:=[I 4,I 3,.slice (some ⟨b1,0,none⟩) 12 12,.slice (some ⟨b2,0,none⟩) 5 5,.slice (some ⟨b3,0,none⟩) 5 5,.slice ao i co,.slice (some ⟨b4,0,none⟩) 2 2,I 1,I 2]) (B:=D) (by rw [hCB]; rfl) (by simp) ?_
 simp (config := { maxSteps := 4000000 }) only [↓sxw,sxw,tf55,sxu,sxl,sxm,simprocAttr,e8,dn]
 refine ⟨(i + 1,some ad4,c4,pb ++ [((i,bh,bs):Eq3)]),_,rfl,HImp.perm (List.perm_middle (l₁:=[_,_,_])),⟨by simp only []; omega,by simp only [List.length_append,List.length_singleton]; omega,HO.row (.slice (some ⟨bs,0,none⟩) 1 1) 3 1 [I 1] :: HO.row (.slice (some ⟨bh,0,none⟩) 1 1) 61 5 [I 1,I i,I i,.slice none 0 0,I 1] :: D,by rw [hCB]; rfl,fun g hg=>List.mem_cons_of_mem _ (List.mem_cons_of_mem _ (hD g hg)),fun k p hp=>?_⟩,by simp only []; omega⟩
 simp only [] at hp
 by_cases hk:k < i
 ·rw [List.getElem?_append_left (by omega)] at hp
  obtain ⟨h1,h2,h3⟩:=hpb k p hp
  exact ⟨h1,List.mem_cons_of_mem _ (List.mem_cons_of_mem _ h2),List.mem_cons_of_mem _ (List.mem_cons_of_mem _ h3)⟩
 ·have hk2:=(List.getElem?_eq_some_iff.1 hp).1
  rw [List.length_append,List.length_singleton,hpl] at hk2
  obtain rfl:k = i:=by omega
  rw [List.getElem?_append_right (by omega),hpl,Nat.sub_self] at hp
  simp only [List.getElem?_cons_zero,Option.some.injEq] at hp
  subst hp
  exact ⟨rfl,List.mem_cons_of_mem _ List.mem_cons_self,List.mem_cons_self⟩
end Go.Proofs.YtljpknnhimkkjaaGreatDoor

namespace Go.Proofs.YtljpknnhimkkjaaGreatDoor
open Go.RowKit Go.SX
set_option maxRecDepth 100000
set_option maxHeartbeats 0
set_option linter.unusedSimpArgs false
set_option linter.unusedVariables false
theorem ExB.ok {H:List HO} {i:Nat} {p:Bm} (h:ExB H i p) {w0:Base} {w:World} (hp:Hp w0 H w):BsOk w p:=by
 obtain ⟨h1,h2,h3⟩:=h
 obtain ⟨y,hv,vt⟩:=p
 simp only [] at h1 h2 h3
 subst h1
 refine ⟨⟨hv,[((⟨1,i,i,[],1⟩:Hnd),none,0)],rfl,rfl,row_hp h2 hp,fun q hq=>?_⟩,row_hp h3 hp⟩
 rw [List.mem_singleton.1 hq]
 exact Sl.nil w 2
theorem ex_co {H:List HO} {sD sT sS vb vm:Value} {pb:List Bm} (h1:HO.row sD 3 1 (ints exC.depth) ∈ H) (h2:HO.row sT 49 2 (cat spc exC.tide) ∈ H) (h3:HO.row sS 3 1 (ints exC.swell) ∈ H) (h4:HO.row vb 45 16 (cat bac pb) ∈ H) (h5:HO.row vm 53 2 (cat spc exCo.marks) ∈ H) (h6:pb.length = 2) (h7:∀ (i:Nat) p,pb[i]? = some p → ExB H i p) {w0:Base} {w:World} (hp:Hp w0 H w):CoOk w (.agg (cov sD sT sS vb vm exCo).toArray) exCo:=by
 have hfst:pb.map Prod.fst = [exU8 0,exU8 1]:=by
  apply List.ext_getElem?
  intro k
  rw [List.getElem?_map]
  by_cases hk:k < pb.length
  ·rw [List.getElem?_eq_getElem hk,Option.map_some,(h7 k _ (List.getElem?_eq_getElem hk)).1]
   obtain rfl | rfl:k = 0 ∨ k = 1:=by omega
   ·rfl
   ·rfl
  ·rw [List.getElem?_eq_none (by omega),List.getElem?_eq_none (by simp only [List.length_cons,List.length_nil]; omega)]
   rfl
 have hb:∀ p ∈ pb,BsOk w p:=fun p hpm=>by
  obtain ⟨i,hi,rfl⟩:=List.mem_iff_getElem.1 hpm
  exact (h7 i _ (List.getElem?_eq_getElem hi)).ok hp
 have hC:ChOk w (.agg #[I exC.wide,I exC.high,sD,sT,sS]) exC:=⟨sD,sT,sS,rfl,row_hp h1 hp,row_hp h2 hp,row_hp h3 hp⟩
 exact ⟨sD,sT,sS,vb,vm,pb,rfl,hC,hfst,row_hp h4 hp,hb,row_hp h5 hp⟩
end Go.Proofs.YtljpknnhimkkjaaGreatDoor

namespace Go.Proofs.YtljpknnhimkkjaaGreatDoor
open Go.RowKit Go.SX
set_option maxRecDepth 10000
set_option maxHeartbeats 0
set_option linter.unusedSimpArgs false
set_option linter.unusedVariables false
theorem ChOk.parts {w:World} {c:Cht} {sD sT sS:Value} (h:ChOk w (.agg #[I c.wide,I c.high,sD,sT,sS]) c):Sl w sD 1 (ints c.depth) ∧ Sl w sT 2 (cat spc c.tide) ∧ Sl w sS 1 (ints c.swell):=by
 obtain ⟨sD',sT',sS',he,hD,hT,hS⟩:=h
 injection he with he
 injection he with he
 simp only [List.cons.injEq,true_and,and_true] at he
 obtain ⟨rfl,rfl,rfl⟩:=he
 exact ⟨hD,hT,hS⟩
theorem BsOk.parts {w:World} {y:Bse} {hv vt:Value} (h:BsOk w (y,hv,vt)):∃ ps,ps.map Prod.fst = y.stn.hands ∧ Sl w hv 5 (cat hdc ps) ∧ ∀ p ∈ ps,LogOk w p:=by
 obtain ⟨⟨hv',ps,h1,h2,h3,h4⟩,_⟩:=h
 unfold snv at h1
 injection h1 with h1
 injection h1 with h1
 have:hv = hv':=(List.cons.inj h1).1
 subst this
 exact ⟨ps,h2,h3,h4⟩
def FarP (x:Cst) (r:Value):Prop:=∃ b,r = .bool b ∧ (b = false → x.small ∧ (x.ok → x.bases.length ≤ 3))
theorem FarP.yes (x:Cst):FarP x (.bool true):=⟨true,rfl,fun h=>by cases h⟩
def pl15_21:Plan:=(ones [0,1,2,3,4,5,6,7,8,9,10,11,12,13,14,15] .fin)
def pl15:List (Nat × Plan):=[(21,pl15_21)]
theorem pl15_lk:(lkO 21 pl15 = some pl15_21):=rfl
theorem far8_fn (w:World) (v:Value) (x:Cst) (hx:CoOk w v x):SX.Fn Tryz.prog 15 [v] w (fun _=>False) fun r N=>FarP x r:=by
 obtain ⟨sD,sT,sS,vb,vm,pb,rfl,hC,h2,h3,h4,h5⟩:=hx
 have dn:∀ (g:Nat) (xs:List Value),det0 g xs = none:=fun _ _=>rfl
 have hyes:=FarP.yes x
 have hC0:=hC
 obtain ⟨hD,hT,hS⟩:=hC.parts
 have hck:=fun (hsm:x.cht.small) (H:List HO) w' (hp:Hp ⟨w,fun _=>False⟩ H w')=>rcheck_fn w' _ x.cht (hC0.hp hp) hsm
 have hpl:pb.length = x.bases.length:=by rw [← h2,List.length_map]
 obtain ⟨aD,nD,cD,rfl⟩:=hD.shape
 have hn1:=hD.le i1_len (by omega)
 obtain ⟨aT,nT,cT,rfl⟩:=hT.shape
 have hn2:=hT.le spc_len (by omega)
 obtain ⟨aS,nS,cS,rfl⟩:=hS.shape
 have hn3:=hS.le i1_len (by omega)
 obtain ⟨aB,nB,cB,rfl⟩:=h3.shape
 have hn4:=h3.le bac_len (by omega)
 obtain ⟨aM,nM,cM,rfl⟩:=h5.shape
 have hn5:=h5.le spc_len (by omega)
 subst hn1 hn2 hn3 hn4 hn5
 have hrT:=fun H=>hT.rd0 H
 have hrB:=fun H=>h3.rd0 H
 have hce:=fun w'=>cells_fn w' x.cht.wide x.cht.high (.slice aD x.cht.depth.length cD) (.slice aT x.cht.tide.length cT) (.slice aS x.cht.swell.length cS)
 have hpy:∀ (i:Nat) p,pb[i]? = some p → x.bases[i]? = some p.1:=fun i p hp=>by rw [← h2,List.getElem?_map,hp]; rfl
 unfold cov
 refine walkC [3] [] pl15 (det0_ok _ _) Tryz.func15 rfl Tryz.ntmps15 res15 (by kernel_rfl) no_facts ?_
 simp (config := { maxSteps := 4000000 }) only [↓sxw,sxw,tf15,sxu,sxl,sxm,simprocAttr,dn]
 refine cut_constH [(8,38)] (fun b:Bool=>[(38,.bool b)]) (fun b H2=>H2 = [] ∧ (b = false → x.cht.depth.length ≤ 200 ∧ x.cht.tide.length ≤ 80 ∧ x.cht.swell.length ≤ 80 ∧ pb.length ≤ 20 ∧ x.marks.length ≤ 30)) ?_ ?_
 ·by_cases q1:x.cht.depth.length > 200
  ·have z1:((x.cht.depth.length:Int) > 200) = True:=eq_true (by omega)
   refine ⟨?_⟩
   simp (config := { maxSteps := 4000000 }) only [↓sxw,sxw,tf15,sxu,sxl,sxm,simprocAttr,z1,dn]
   exact ⟨true,_,rfl,HImp.refl _ _,rfl,fun h=>by cases h⟩
  have z1:((x.cht.depth.length:Int) > 200) = False:=eq_false (by omega)
  by_cases q2:x.cht.tide.length > 80
  ·have z2:((x.cht.tide.length:Int) > 80) = True:=eq_true (by omega)
   refine ⟨?_⟩
   simp (config := { maxSteps := 4000000 }) only [↓sxw,sxw,tf15,sxu,sxl,sxm,simprocAttr,z1,z2,dn]
   exact ⟨true,_,rfl,HImp.refl _ _,rfl,fun h=>by cases h⟩
  have z2:((x.cht.tide.length:Int) > 80) = False:=eq_false (by omega)
  by_cases q3:x.cht.swell.length > 80
  ·have z3:((x.cht.swell.length:Int) > 80) = True:=eq_true (by omega)
   refine ⟨?_⟩
   simp (config := { maxSteps := 4000000 }) only [↓sxw,sxw,tf15,sxu,sxl,sxm,simprocAttr,z1,z2,z3,dn]
   exact ⟨true,_,rfl,HImp.refl _ _,rfl,fun h=>by cases h⟩
  have z3:((x.cht.swell.length:Int) > 80) = False:=eq_false (by omega)
  by_cases q4:pb.length > 20
  ·have z4:((pb.length:Int) > 20) = True:=eq_true (by omega)
   refine ⟨?_⟩
   simp (config := { maxSteps := 4000000 }) only [↓sxw,sxw,tf15,sxu,sxl,sxm,simprocAttr,z1,z2,z3,z4,dn]
   exact ⟨true,_,rfl,HImp.refl _ _,rfl,fun h=>by cases h⟩
  have z4:((pb.length:Int) > 20) = False:=eq_false (by omega)
  by_cases q5:x.marks.length > 30
  ·have z5:((x.marks.length:Int) > 30) = True:=eq_true (by omega)
   refine ⟨?_⟩
   simp (config := { maxSteps := 4000000 }) only [↓sxw,sxw,tf15,sxu,sxl,sxm,simprocAttr,z1,z2,z3,z4,z5,dn]
   exact ⟨true,_,rfl,HImp.refl _ _,rfl,fun h=>by cases h⟩
  have z5:((x.marks.length:Int) > 30) = False:=eq_false (by omega)
  refine ⟨?_⟩
  simp (config := { maxSteps := 4000000 }) only [↓sxw,sxw,tf15,sxu,sxl,sxm,simprocAttr,z1,z2,z3,z4,z5,dn]
  exact ⟨false,_,rfl,HImp.refl _ _,rfl,fun _=>⟨by omega,by omega,by omega,by omega,by omega⟩⟩
 rintro b H2 g2 ⟨rfl,hb⟩
 cases b with
 | true=>
  refine ⟨?_⟩
  simp (config := { maxSteps := 4000000 }) only [↓sxw,sxw,tf15,sxu,sxl,sxm,simprocAttr,dn]
  exact hyes
 | false=>
 obtain ⟨b1,b2,b3,b4,b5⟩:=hb rfl
 refine ⟨?_⟩
 simp (config := { maxSteps := 4000000 }) only [↓sxw,sxw,tf15,sxu,sxl,sxm,simprocAttr,dn]
 refine loop_constH [] (HImp.nil _ _) [(2,6),(39,89)] (fun q:Nat × Int=>[(3,I q.2),(4,I q.1)]) (fun q H1=>q.1 ≤ pb.length ∧ H1 = [] ∧ ∀ (j:Nat) b,j < q.1 → x.bases[j]? = some b → b.stn.small ∧ b.seats.length ≤ 20) (fun q=>pb.length - q.1) (0,0) ?_ ⟨Nat.zero_le _,rfl,fun j b hj=>by omega⟩ ?_
 ·simp (config := { maxSteps := 4000000 }) only [↓sxw,sxw,tf15,sxu,sxl,sxm,simprocAttr]
  try simp
 rintro ⟨i,hn⟩ H1 g1 hinv
 simp only [] at hinv
 obtain ⟨hi,rfl,hdone⟩:=hinv
 by_cases hin:i = pb.length
 ·have e7:((i:Int) < (pb.length:Int)) = False:=eq_false (by omega)
  have hsc:x.cht.small:=⟨by omega,by omega,by omega⟩
  have hsm:x.small:=⟨hsc,by omega,by omega,fun b hbm=>by
   obtain ⟨j,hj,rfl⟩:=List.mem_iff_getElem.1 hbm
   exact hdone j _ (by omega) (List.getElem?_eq_getElem hj)⟩
  refine ⟨?_⟩
  simp (config := { maxSteps := 4000000 }) only [↓sxw,sxw,tf15,sxu,sxl,sxm,simprocAttr,e7,dn]
  refine CallOb.pureH (fun w' hp=>hck hsc _ w' hp) ?_
  rintro r N rfl
  obtain ⟨OK,hOK⟩:∃ b,x.cht.okB = b:=⟨_,rfl⟩
  rw [hOK]
  cases OK with
  | false=>
   refine ⟨?_⟩
   simp (config := { maxSteps := 4000000 }) only [↓sxw,sxw,tf15,sxu,sxl,sxm,simprocAttr,dn]
   exact ⟨false,rfl,fun _=>⟨hsm,fun hok=>by rw [(okB_iff _).2 hok.cht] at hOK; cases hOK⟩⟩
  | true=>
  refine ⟨?_⟩
  simp (config := { maxSteps := 4000000 }) only [↓sxw,sxw,tf15,sxu,sxl,sxm,simprocAttr,dn]
  refine loop_constH [] (HImp.nil _ _) [(2,2),(7,7),(94,117)] (fun q:Nat=>[(7,I q)]) (fun q H1=>q ≤ x.cht.tide.length ∧ H1 = []) (fun q=>x.cht.tide.length - q) 0 ?_ ⟨Nat.zero_le _,rfl⟩ ?_
  ·simp (config := { maxSteps := 4000000 }) only [↓sxw,sxw,tf15,sxu,sxl,sxm,simprocAttr]
   try simp
  rintro t H1 g3 ⟨ht,rfl⟩
  by_cases htn:t = x.cht.tide.length
  ·have f7:((t:Int) < (x.cht.tide.length:Int)) = False:=eq_false (by omega)
   by_cases c1:pb.length > 3
   ·have z1:((pb.length:Int) > 3) = True:=eq_true (by omega)
    by_cases c2:pb.length ≤ 5
    ·have z2:((pb.length:Int) ≤ 5) = True:=eq_true (by omega)
     refine ⟨?_⟩
     simp (config := { maxSteps := 4000000 }) only [↓sxw,sxw,tf15,sxu,sxl,sxm,simprocAttr,f7,dn]
     refine CallOb.pureH (fun w' hp=>hce w') ?_
     rintro r N2 rfl
     refine ⟨?_⟩
     simp (config := { maxSteps := 4000000 }) only [↓sxw,sxw,tf15,sxu,sxl,sxm,simprocAttr,z1,z2,hyes,dn]
    have z2:((pb.length:Int) ≤ 5) = False:=eq_false (by omega)
    have hall:∀ b,FarP x (.bool b):=fun b=>⟨b,rfl,fun _=>⟨hsm,fun hok=>by have:=hok.nb; omega⟩⟩
    refine ⟨?_⟩
    simp (config := { maxSteps := 4000000 }) only [↓sxw,sxw,tf15,sxu,sxl,sxm,simprocAttr,f7,dn]
    refine CallOb.pureH (fun w' hp=>hce w') ?_
    rintro r N2 rfl
    refine ⟨?_⟩
    simp (config := { maxSteps := 4000000 }) only [↓sxw,sxw,tf15,sxu,sxl,sxm,simprocAttr,z1,z2,hall,dn]
   have z1:((pb.length:Int) > 3) = False:=eq_false (by omega)
   have hall:∀ b,FarP x (.bool b):=fun b=>⟨b,rfl,fun _=>⟨hsm,fun hok=>by omega⟩⟩
   refine ⟨?_⟩
   simp (config := { maxSteps := 4000000 }) only [↓sxw,sxw,tf15,sxu,sxl,sxm,simprocAttr,f7,dn]
   refine CallOb.pureH (fun w' hp=>hce w') ?_
   rintro r N2 rfl
   refine ⟨?_⟩
   simp (config := { maxSteps := 4000000 }) only [↓sxw,sxw,tf15,sxu,sxl,sxm,simprocAttr,z1,hall,dn]
  have f7:((t:Int) < (x.cht.tide.length:Int)) = True:=eq_true (by omega)
  have f8:wr (t + 1) = ((t + 1:Nat):Int):=(wrap_id (by omega)).trans (by omega)
  obtain ⟨tp,htp⟩:∃ tp,x.cht.tide[t]? = some tp:=⟨_,List.getElem?_eq_getElem (by omega)⟩
  obtain ⟨tl,th⟩:=tp
  by_cases k5:wr (th - tl) > 5
  ·have z5:(wr (th - tl) > 5) = True:=eq_true k5
   refine ⟨?_⟩
   simp (config := { maxSteps := 4000000 }) only [↓sxw,sxw,tf15,sxu,sxl,sxm,simprocAttr,f7,dn,pl15_lk,pl15_21]
   first | refine amid (at_f (hrT _) spc_len htp (o:=1) (x:=I th) rfl fun ad=>?_) | refine at_f (hrT _) spc_len htp (o:=1) (x:=I th) rfl fun ad=>?_
   simp (config := { maxSteps := 4000000 }) only [↓sxw,sxw,tf15,sxu,sxl,sxm,simprocAttr,f7,dn,pl15_lk,pl15_21]
   first | refine amid (at_f (hrT _) spc_len htp (o:=0) (x:=I tl) rfl fun ad=>?_) | refine at_f (hrT _) spc_len htp (o:=0) (x:=I tl) rfl fun ad=>?_
   simp (config := { maxSteps := 4000000 }) only [↓sxw,sxw,tf15,sxu,sxl,sxm,simprocAttr,z5,dn,pl15_lk,pl15_21]
   exact hyes
  ·have z5:(wr (th - tl) > 5) = False:=eq_false k5
   refine ⟨?_⟩
   simp (config := { maxSteps := 4000000 }) only [↓sxw,sxw,tf15,sxu,sxl,sxm,simprocAttr,f7,dn,pl15_lk,pl15_21]
   first | refine amid (at_f (hrT _) spc_len htp (o:=1) (x:=I th) rfl fun ad=>?_) | refine at_f (hrT _) spc_len htp (o:=1) (x:=I th) rfl fun ad=>?_
   simp (config := { maxSteps := 4000000 }) only [↓sxw,sxw,tf15,sxu,sxl,sxm,simprocAttr,f7,dn,pl15_lk,pl15_21]
   first | refine amid (at_f (hrT _) spc_len htp (o:=0) (x:=I tl) rfl fun ad=>?_) | refine at_f (hrT _) spc_len htp (o:=0) (x:=I tl) rfl fun ad=>?_
   simp (config := { maxSteps := 4000000 }) only [↓sxw,sxw,tf15,sxu,sxl,sxm,simprocAttr,z5,f8,dn,pl15_lk,pl15_21]
   exact ⟨t + 1,_,rfl,HImp.nil _ _,⟨by omega,rfl⟩,by omega⟩
 have e7:((i:Int) < (pb.length:Int)) = True:=eq_true (by omega)
 have e8:wr (i + 1) = ((i + 1:Nat):Int):=(wrap_id (by omega)).trans (by omega)
 obtain ⟨p,hp⟩:∃ p,pb[i]? = some p:=⟨_,List.getElem?_eq_getElem (by omega)⟩
 have hpx:=hpy i p hp
 have hbo:=h4 p (List.mem_of_getElem? hp)
 obtain ⟨y,hv,vt⟩:=p
 have hst:=hbo.2
 obtain ⟨ps,hps,hsl,hlg⟩:=hbo.parts
 obtain ⟨aH,nH,cH,rfl⟩:=hsl.shape
 have hn1:=hsl.le hdc_len (by omega)
 obtain ⟨aQ,nQ,cQ,rfl⟩:=hst.shape
 have hn2:=hst.le i1_len (by omega)
 simp only [] at hn2 hst hpx
 subst hn1 hn2
 have hrH:=fun H=>hsl.rd0 H
 have hhl:y.stn.hands.length = ps.length:=by rw [← hps,List.length_map]
 by_cases s1:y.seats.length > 20
 ·have z1:((y.seats.length:Int) > 20) = True:=eq_true (by omega)
  refine ⟨?_⟩
  simp (config := { maxSteps := 4000000 }) only [↓sxw,sxw,tf15,sxu,sxl,sxm,simprocAttr,e7,dn]
  refine amid (at_n (hrB _) bac_len (by omega) hp fun ad=>?_)
  unfold bac
  simp (config := { maxSteps := 4000000 }) only [↓sxw,sxw,tf15,sxu,sxl,sxm,simprocAttr,z1,dn]
  exact hyes
 have z1:((y.seats.length:Int) > 20) = False:=eq_false (by omega)
 by_cases s2:ps.length > 20
 ·have z2:((ps.length:Int) > 20) = True:=eq_true (by omega)
  refine ⟨?_⟩
  simp (config := { maxSteps := 4000000 }) only [↓sxw,sxw,tf15,sxu,sxl,sxm,simprocAttr,e7,dn]
  refine amid (at_n (hrB _) bac_len (by omega) hp fun ad=>?_)
  unfold bac
  simp (config := { maxSteps := 4000000 }) only [↓sxw,sxw,tf15,sxu,sxl,sxm,simprocAttr,z1,z2,dn]
  exact hyes
 have z2:((ps.length:Int) > 20) = False:=eq_false (by omega)
 refine ⟨?_⟩
 simp (config := { maxSteps := 4000000 }) only [↓sxw,sxw,tf15,sxu,sxl,sxm,simprocAttr,e7,dn]
 refine amid (at_n (hrB _) bac_len (by omega) hp fun ad=>?_)
 unfold bac
 simp (config := { maxSteps := 4000000 }) only [↓sxw,sxw,tf15,sxu,sxl,sxm,simprocAttr,z1,z2,dn]
 refine loop_constH [] (HImp.nil _ _) [(2,2),(6,6),(73,89)] (fun q:Nat=>[(6,I q)]) (fun q H1=>q ≤ ps.length ∧ H1 = [] ∧ ∀ (j:Nat) h,j < q → y.stn.hands[j]? = some h → h.log.length ≤ 20) (fun q=>ps.length - q) 0 ?_ ⟨Nat.zero_le _,rfl,fun j b hj=>by omega⟩ ?_
 ·simp (config := { maxSteps := 4000000 }) only [↓sxw,sxw,tf15,sxu,sxl,sxm,simprocAttr]
  try simp
 rintro k H1 g3 ⟨hk,rfl,hkd⟩
 by_cases hkn:k = ps.length
 ·have f7:((k:Int) < (ps.length:Int)) = False:=eq_false (by omega)
  refine ⟨?_⟩
  simp (config := { maxSteps := 4000000 }) only [↓sxw,sxw,tf15,sxu,sxl,sxm,simprocAttr,f7,e8,dn]
  refine ⟨(i + 1,_),_,by first | exact ⟨rfl,rfl⟩ | rfl,HImp.nil _ _,⟨by simp only []; omega,rfl,fun j b hj hbj=>?_⟩,by simp only []; omega⟩
  by_cases hji:j < i
  ·exact hdone j b hji hbj
  ·have hj:j < i + 1:=hj
   obtain rfl:j = i:=by omega
   rw [hpx] at hbj
   cases hbj
   refine ⟨⟨by omega,fun h hh=>?_⟩,by omega⟩
   obtain ⟨q,hq,rfl⟩:=List.mem_iff_getElem.1 hh
   have:=hkd q _ (by omega) (List.getElem?_eq_getElem hq)
   omega
 have f7:((k:Int) < (ps.length:Int)) = True:=eq_true (by omega)
 have f8:wr (k + 1) = ((k + 1:Nat):Int):=(wrap_id (by omega)).trans (by omega)
 obtain ⟨hm,hhm⟩:∃ p,ps[k]? = some p:=⟨_,List.getElem?_eq_getElem (by omega)⟩
 have hyk:y.stn.hands[k]? = some hm.1:=by rw [← hps,List.getElem?_map,hhm]; rfl
 by_cases s3:hm.1.log.length > 20
 ·have z3:((hm.1.log.length:Int) > 20) = True:=eq_true (by omega)
  refine ⟨?_⟩
  simp (config := { maxSteps := 4000000 }) only [↓sxw,sxw,tf15,sxu,sxl,sxm,simprocAttr,f7,dn]
  first | refine amid (at_f (hrH _) hdc_len hhm (o:=3) (x:=lgv hm) rfl fun ad=>?_) | refine at_f (hrH _) hdc_len hhm (o:=3) (x:=lgv hm) rfl fun ad=>?_
  unfold lgv
  simp (config := { maxSteps := 4000000 }) only [↓sxw,sxw,tf15,sxu,sxl,sxm,simprocAttr,z3,dn]
  exact hyes
 ·have z3:((hm.1.log.length:Int) > 20) = False:=eq_false (by omega)
  refine ⟨?_⟩
  simp (config := { maxSteps := 4000000 }) only [↓sxw,sxw,tf15,sxu,sxl,sxm,simprocAttr,f7,dn]
  first | refine amid (at_f (hrH _) hdc_len hhm (o:=3) (x:=lgv hm) rfl fun ad=>?_) | refine at_f (hrH _) hdc_len hhm (o:=3) (x:=lgv hm) rfl fun ad=>?_
  unfold lgv
  simp (config := { maxSteps := 4000000 }) only [↓sxw,sxw,tf15,sxu,sxl,sxm,simprocAttr,z3,f8,dn]
  refine ⟨k + 1,_,rfl,HImp.nil _ _,⟨by omega,rfl,fun j h hj hjh=>?_⟩,by omega⟩
  by_cases hjk:j < k
  ·exact hkd j h hjk hjh
  ·obtain rfl:j = k:=by omega
   rw [hyk] at hjh
   cases hjh
   omega
end Go.Proofs.YtljpknnhimkkjaaGreatDoor

namespace Go.Proofs.YtljpknnhimkkjaaGreatDoor
open Go.RowKit Go.SX
set_option maxRecDepth 10000
set_option maxHeartbeats 0
set_option linter.unusedSimpArgs false
set_option linter.unusedVariables false
theorem sta_rmp0 {c:Cht} (hok:c.ok) (b:Cls) (r:Rmp):staE c b r 0 0 = rmpE c b r:=by
 rw [sta_rmp]
 split
 ·rename_i h
  have ht:=hok.2.2.2.1
  have h1:inB (0:Int) 0 ((c.tide.length:Int) - 1) = true:=(inB_iff _ _ _).2 (by omega)
  have h2:inB (0:Int) 0 5000 = true:=(inB_iff _ _ _).2 (by omega)
  rw [h1,h2,h]
  rfl
 ·rfl
theorem call_chk (s:Stn) (l:List Int) (len:Int) (h:1 ≤ len ∧ len ≤ 40):callE s 0 l len = chkW s l []:=by
 have h1:inBK (0:Int) 0 100 = true:=by decide
 have h2:inBK len 1 40 = true:=(inB_iffK _ _ _).2 h
 unfold callE chkW
 rw [h1,h2]
 simp [shB]
def pl16_12:Plan:=(ones [0,1,2,3,4,5,6,7,8,9,10,11,12,13,14,15,16,17,18,19] .fin)
def pl16:List (Nat × Plan):=[(12,pl16_12)]
theorem pl16_lk:(lkO 12 pl16 = some pl16_12):=rfl
theorem rcheck8_fn (w:World) (hw:Ways w) (v:Value) (x:Cst) (hx:CoOk w v x) (hsm:x.small):SX.Fn Tryz.prog 16 [v] w (fun _=>False) fun r N=>r = I (if x.okB then 0 else 80):=by
 obtain ⟨sD,sT,sS,vb,vm,pb,rfl,hC,h2,h3,h4,h5⟩:=hx
 have dn:(∀ xs,detV 49 xs = none) ∧ (∀ xs,detV 52 xs = none) ∧ (∀ xs,detV 53 xs = none) ∧ (∀ xs,detV 54 xs = none):=⟨fun _=>rfl,fun _=>rfl,fun _=>rfl,fun _=>rfl⟩
 have hck:=fun (H:List HO) w' (hp:Hp ⟨w,fun _=>False⟩ H w')=>rcheck_fn w' _ x.cht (hC.hp hp) hsm.cht
 have hrr:=fun (b:Cls) (r:Rmp) (H:List HO) w' (hp:Hp ⟨w,fun _=>False⟩ H w')=>rramp_fn w' (hw.hp hp) _ x.cht (hC.hp hp) hsm.cht b r
 have hcs:=fun (p:Bm) (hpm:p ∈ pb) (H:List HO) w' (hp:Hp ⟨w,fun _=>False⟩ H w')=>rcseats_fn w' _ p.1.stn ((h4 p hpm).hp hp).1 (hsm.bas p.1 (by rw [← h2]; exact List.mem_map_of_mem hpm)).1 0 _ p.1.seats ((h4 p hpm).hp hp).2 x.length
 have hic:=fun (n:Int) w'=>isCell_fn w' x.cht.wide x.cht.high n sD sT sS
 have hone:=fun (p:Bm) (hp:p ∈ pb)=>bac_one (h4 p hp)
 have hpl:pb.length = x.bases.length:=by rw [← h2,List.length_map]
 have hnb:=hsm.nb
 have hnm:=hsm.nm
 have hT:=hC.parts.2.1
 obtain ⟨aT,nT,cT,rfl⟩:=hT.shape
 have hn2:=hT.le spc_len (by omega)
 obtain ⟨aB,nB,cB,rfl⟩:=h3.shape
 have hn4:=h3.le bac_len (by omega)
 obtain ⟨aM,nM,cM,rfl⟩:=h5.shape
 have hn5:=h5.le spc_len (by omega)
 subst hn2 hn4 hn5
 have hrB:=fun H=>h3.rd0 H
 have hrM:=fun H=>h5.rd0 H
 have hok:x.okB = (x.cht.okB && inB x.bases.length 1 5 && x.bases.all (baseB x.cht) && inB x.marks.length 1 6 && x.marks.all (markB x.cht) && inB x.length 1 40 && inB x.calls 1 x.cht.tide.length):=rfl
 have hall:x.bases.all (baseB x.cht) = pb.all fun p=>baseB x.cht p.1:=by rw [← h2,List.all_map]; rfl
 obtain ⟨OK,hOK⟩:∃ b,x.okB = b:=⟨_,rfl⟩
 rw [hOK] at hok ⊢
 rw [← hpl] at hok
 obtain ⟨B1,hB1⟩:∃ b,x.cht.okB = b:=⟨_,rfl⟩
 obtain ⟨B2,hB2⟩:∃ b,inB (pb.length:Int) 1 5 = b:=⟨_,rfl⟩
 obtain ⟨B3,hB3⟩:∃ b,x.bases.all (baseB x.cht) = b:=⟨_,rfl⟩
 obtain ⟨B4,hB4⟩:∃ b,inB (x.marks.length:Int) 1 6 = b:=⟨_,rfl⟩
 obtain ⟨B5,hB5⟩:∃ b,x.marks.all (markB x.cht) = b:=⟨_,rfl⟩
 obtain ⟨B6,hB6⟩:∃ b,inB x.length 1 40 = b:=⟨_,rfl⟩
 obtain ⟨B7,hB7⟩:∃ b,inB x.calls 1 x.cht.tide.length = b:=⟨_,rfl⟩
 simp only [hB1] at hck
 rw [hB1,hB2,hB3,hB4,hB5,hB6,hB7] at hok
 have hcal:=fun (h:B6 = true) (p:Bm)=>call_chk p.1.stn p.1.seats x.length (by rw [h,inB_iff] at hB6; exact hB6)
 have hsta:=fun (h:B1 = true) (p:Bm)=>sta_rmp0 ((okB_iff _).1 (by rw [hB1,h])) p.1.cls p.1.rmp
 have hcel:=fun (h:B1 = true) (n:Int)=>isCellB_eq ((okB_iff _).1 (by rw [hB1,h])) n
 unfold clv rmv at hrr
 unfold snv at hcs
 unfold cov at ⊢
 refine walkC [3] [] pl16 (detV_ok _ _) Tryz.func16 rfl Tryz.ntmps16 res16 (by kernel_rfl) no_facts ?_
 simp (config := { maxSteps := 4000000 }) only [↓sxw,sxw,tf16,sxu,sxl,sxm,simprocAttr,dn]
 refine cut_constH [(6,39)] (fun b:Bool=>[(39,.bool b)]) (fun b H2=>H2 = [] ∧ b = !(B1 && B2 && B4 && B6 && B7)) ?_ ?_
 ·refine ⟨?_⟩
  simp (config := { maxSteps := 4000000 }) only [↓sxw,sxw,tf16,sxu,sxl,sxm,simprocAttr,dn]
  refine CallOb.pureH (fun w' hp=>hck _ w' hp) ?_
  rintro r N rfl
  cases B1 with
  | false=>
   refine ⟨?_⟩
   simp (config := { maxSteps := 4000000 }) only [↓sxw,sxw,tf16,sxu,sxl,sxm,simprocAttr,dn,detV_eq]
   exact ⟨true,_,rfl,HImp.nil _ _,rfl,rfl⟩
  | true=>
  cases B2 with
  | false=>
   refine ⟨?_⟩
   simp (config := { maxSteps := 4000000 }) only [↓sxw,sxw,tf16,sxu,sxl,sxm,simprocAttr,hB2,dn,detV_eq]
   exact ⟨true,_,rfl,HImp.nil _ _,rfl,rfl⟩
  | true=>
  cases B4 with
  | false=>
   refine ⟨?_⟩
   simp (config := { maxSteps := 4000000 }) only [↓sxw,sxw,tf16,sxu,sxl,sxm,simprocAttr,hB2,hB4,dn,detV_eq]
   exact ⟨true,_,rfl,HImp.nil _ _,rfl,rfl⟩
  | true=>
  cases B6 with
  | false=>
   refine ⟨?_⟩
   simp (config := { maxSteps := 4000000 }) only [↓sxw,sxw,tf16,sxu,sxl,sxm,simprocAttr,hB2,hB4,hB6,dn,detV_eq]
   exact ⟨true,_,rfl,HImp.nil _ _,rfl,rfl⟩
  | true=>
  cases B7 with
  | false=>
   refine ⟨?_⟩
   simp (config := { maxSteps := 4000000 }) only [↓sxw,sxw,tf16,sxu,sxl,sxm,simprocAttr,hB2,hB4,hB6,hB7,dn,detV_eq]
   exact ⟨true,_,rfl,HImp.nil _ _,rfl,rfl⟩
  | true=>
   refine ⟨?_⟩
   simp (config := { maxSteps := 4000000 }) only [↓sxw,sxw,tf16,sxu,sxl,sxm,simprocAttr,hB2,hB4,hB6,hB7,dn,detV_eq]
   exact ⟨false,_,rfl,HImp.nil _ _,rfl,rfl⟩
 rintro b H2 g2 ⟨rfl,hb⟩
 cases b with
 | true=>
  have hf:OK = false:=by
   rw [hok]
   revert hb
   cases B1 <;> cases B2 <;> cases B4 <;> cases B6 <;> cases B7 <;> simp
  subst hf
  refine ⟨?_⟩
  simp (config := { maxSteps := 4000000 }) only [↓sxw,sxw,tf16,sxu,sxl,sxm,simprocAttr,dn]
  try rfl
 | false=>
 obtain ⟨rfl,rfl,rfl,rfl,rfl⟩:B1 = true ∧ B2 = true ∧ B4 = true ∧ B6 = true ∧ B7 = true:=by
  revert hb
  cases B1 <;> cases B2 <;> cases B4 <;> cases B6 <;> cases B7 <;> simp
 have hok:OK = (B3 && B5):=by rw [hok]; simp
 have hcal:=hcal rfl
 have hsta:=hsta rfl
 have hcel:=hcel rfl
 refine ⟨?_⟩
 simp (config := { maxSteps := 4000000 }) only [↓sxw,sxw,tf16,sxu,sxl,sxm,simprocAttr,dn]
 refine loop_constH [] (HImp.nil _ _) [(2,4),(40,69)] (fun i:Nat=>[(3,I i)]) (fun i H1=>i ≤ pb.length ∧ H1 = [] ∧ B3 = ((pb.drop i).all fun p=>baseB x.cht p.1)) (fun i=>pb.length - i) 0 ?_ ⟨Nat.zero_le _,rfl,by rw [← hB3,hall]; rfl⟩ ?_
 ·simp (config := { maxSteps := 4000000 }) only [↓sxw,sxw,tf16,sxu,sxl,sxm,simprocAttr]
  try simp
 rintro i H1 g1 ⟨hi,rfl,hinv⟩
 by_cases hin:i = pb.length
 ·have e7:((i:Int) < (pb.length:Int)) = False:=eq_false (by omega)
  rw [List.drop_of_length_le (by omega)] at hinv
  have hok:OK = B5:=by rw [hok,hinv]; simp
  refine ⟨?_⟩
  simp (config := { maxSteps := 4000000 }) only [↓sxw,sxw,tf16,sxu,sxl,sxm,simprocAttr,e7,dn]
  refine loop_constH [] (HImp.nil _ _) [(2,2),(5,5),(70,96)] (fun i:Nat=>[(5,I i)]) (fun i H1=>i ≤ x.marks.length ∧ H1 = [] ∧ B5 = ((x.marks.drop i).all (markB x.cht))) (fun i=>x.marks.length - i) 0 ?_ ⟨Nat.zero_le _,rfl,hB5.symm⟩ ?_
  ·simp (config := { maxSteps := 4000000 }) only [↓sxw,sxw,tf16,sxu,sxl,sxm,simprocAttr]
   try simp
  rintro k H1 g3 ⟨hk,rfl,hinv2⟩
  by_cases hkn:k = x.marks.length
  ·have f7:((k:Int) < (x.marks.length:Int)) = False:=eq_false (by omega)
   rw [List.drop_of_length_le (by omega)] at hinv2
   have ht:OK = true:=by rw [hok,hinv2]; rfl
   subst ht
   refine ⟨?_⟩
   simp (config := { maxSteps := 4000000 }) only [↓sxw,sxw,tf16,sxu,sxl,sxm,simprocAttr,f7,dn]
   try rfl
  have f7:((k:Int) < (x.marks.length:Int)) = True:=eq_true (by omega)
  have f8:wr (k + 1) = ((k + 1:Nat):Int):=(wrap_id (by omega)).trans (by omega)
  have hkl:k < x.marks.length:=by omega
  have hu:=List.getElem?_eq_getElem hkl
  rw [List.drop_eq_getElem_cons hkl,List.all_cons] at hinv2
  generalize x.marks[k] = m at hu hinv2
  obtain ⟨mc,ml⟩:=m
  have hmk:markB x.cht (mc,ml) = (inB mc 0 ((x.cht.depth.length:Int) - 1) && inB ml 0 60):=rfl
  have hcm:=hcel mc
  rw [← hcm] at hmk
  have hcm2:=hic mc
  obtain ⟨C1,hC1⟩:∃ b,isCellB x.cht.wide x.cht.high mc = b:=⟨_,rfl⟩
  obtain ⟨C2,hC2⟩:∃ b,inB ml 0 60 = b:=⟨_,rfl⟩
  rw [hC1,hC2] at hmk
  rw [hmk] at hinv2
  simp only [hC1] at hcm2
  cases C1 with
  | false=>
   have hf:OK = false:=by rw [hok,hinv2]; simp
   subst hf
   refine ⟨?_⟩
   simp (config := { maxSteps := 4000000 }) only [↓sxw,sxw,tf16,sxu,sxl,sxm,simprocAttr,f7,dn,detV_eq,pl16_lk,pl16_12]
   first | refine amid (at_f (hrM _) spc_len hu (o:=0) (x:=I mc) rfl fun ad=>?_) | refine at_f (hrM _) spc_len hu (o:=0) (x:=I mc) rfl fun ad=>?_
   simp (config := { maxSteps := 4000000 }) only [↓sxw,sxw,tf16,sxu,sxl,sxm,simprocAttr,dn,detV_eq,pl16_lk,pl16_12]
   refine CallOb.pureH (fun w' hp=>hcm2 w') ?_
   rintro r N rfl
   refine ⟨?_⟩
   simp (config := { maxSteps := 4000000 }) only [↓sxw,sxw,tf16,sxu,sxl,sxm,simprocAttr,dn,detV_eq,pl16_lk,pl16_12]
   try rfl
  | true=>
  cases C2 with
  | false=>
   have hf:OK = false:=by rw [hok,hinv2]; simp
   subst hf
   refine ⟨?_⟩
   simp (config := { maxSteps := 4000000 }) only [↓sxw,sxw,tf16,sxu,sxl,sxm,simprocAttr,f7,dn,detV_eq,pl16_lk,pl16_12]
   first | refine amid (at_f (hrM _) spc_len hu (o:=0) (x:=I mc) rfl fun ad=>?_) | refine at_f (hrM _) spc_len hu (o:=0) (x:=I mc) rfl fun ad=>?_
   simp (config := { maxSteps := 4000000 }) only [↓sxw,sxw,tf16,sxu,sxl,sxm,simprocAttr,dn,detV_eq,pl16_lk,pl16_12]
   refine CallOb.pureH (fun w' hp=>hcm2 w') ?_
   rintro r N rfl
   refine ⟨?_⟩
   simp (config := { maxSteps := 4000000 }) only [↓sxw,sxw,tf16,sxu,sxl,sxm,simprocAttr,f7,dn,detV_eq,pl16_lk,pl16_12]
   first | refine amid (at_f (hrM _) spc_len hu (o:=1) (x:=I ml) rfl fun ad=>?_) | refine at_f (hrM _) spc_len hu (o:=1) (x:=I ml) rfl fun ad=>?_
   simp (config := { maxSteps := 4000000 }) only [↓sxw,sxw,tf16,sxu,sxl,sxm,simprocAttr,hC2,dn,detV_eq,pl16_lk,pl16_12]
   try rfl
  | true=>
   rw [Bool.true_and,Bool.true_and] at hinv2
   refine ⟨?_⟩
   simp (config := { maxSteps := 4000000 }) only [↓sxw,sxw,tf16,sxu,sxl,sxm,simprocAttr,f7,dn,detV_eq,pl16_lk,pl16_12]
   first | refine amid (at_f (hrM _) spc_len hu (o:=0) (x:=I mc) rfl fun ad=>?_) | refine at_f (hrM _) spc_len hu (o:=0) (x:=I mc) rfl fun ad=>?_
   simp (config := { maxSteps := 4000000 }) only [↓sxw,sxw,tf16,sxu,sxl,sxm,simprocAttr,dn,detV_eq,pl16_lk,pl16_12]
   refine CallOb.pureH (fun w' hp=>hcm2 w') ?_
   rintro r N rfl
   refine ⟨?_⟩
   simp (config := { maxSteps := 4000000 }) only [↓sxw,sxw,tf16,sxu,sxl,sxm,simprocAttr,f7,dn,detV_eq,pl16_lk,pl16_12]
   first | refine amid (at_f (hrM _) spc_len hu (o:=1) (x:=I ml) rfl fun ad=>?_) | refine at_f (hrM _) spc_len hu (o:=1) (x:=I ml) rfl fun ad=>?_
   simp (config := { maxSteps := 4000000 }) only [↓sxw,sxw,tf16,sxu,sxl,sxm,simprocAttr,hC2,f8,dn,detV_eq,pl16_lk,pl16_12]
   exact ⟨k + 1,_,rfl,HImp.nil _ _,⟨by omega,rfl,hinv2⟩,by omega⟩
 have e7:((i:Int) < (pb.length:Int)) = True:=eq_true (by omega)
 have e8:wr (i + 1) = ((i + 1:Nat):Int):=(wrap_id (by omega)).trans (by omega)
 have hil:i < pb.length:=by omega
 have hu:=List.getElem?_eq_getElem hil
 have hm:=List.getElem_mem hil
 rw [List.drop_eq_getElem_cons hil,List.all_cons] at hinv
 generalize pb[i] = p at hu hm hinv
 obtain ⟨ho1,ho2⟩:=hone p hm
 have hcs:=hcs p hm
 have hrr:=hrr p.1.cls p.1.rmp
 have hba:baseB x.cht p.1 = (decide (rmpE x.cht p.1.cls p.1.rmp = 0) && decide (callE p.1.stn 0 p.1.seats x.length = 0)):=by
  unfold baseB
  rw [hsta,hcal]
 rw [hba] at hinv
 obtain ⟨E1,hE1⟩:∃ e,rmpE x.cht p.1.cls p.1.rmp = e:=⟨_,rfl⟩
 obtain ⟨E2,hE2⟩:∃ e,callE p.1.stn 0 p.1.seats x.length = e:=⟨_,rfl⟩
 rw [hE1,hE2] at hinv
 simp only [hE1] at hrr
 simp only [hE2] at hcs
 by_cases k1:E1 = 0
 case neg=>
  have z1:(E1 = 0) = False:=eq_false k1
  have hf:OK = false:=by rw [hok,hinv,decide_eq_false k1]; simp
  subst hf
  refine ⟨?_⟩
  simp (config := { maxSteps := 4000000 }) only [↓sxw,sxw,tf16,sxu,sxl,sxm,simprocAttr,e7,dn]
  refine amid (at_n (hrB _) bac_len (by omega) hu fun ad=>?_)
  unfold bac
  simp (config := { maxSteps := 4000000 }) only [↓sxw,sxw,tf16,sxu,sxl,sxm,simprocAttr,ho1,ho2,dn]
  refine CallOb.pureH (fun w' hp=>hrr _ w' hp) ?_
  rintro r N rfl
  refine ⟨?_⟩
  simp (config := { maxSteps := 4000000 }) only [↓sxw,sxw,tf16,sxu,sxl,sxm,simprocAttr,z1,ho1,ho2,dn]
  try rfl
 have z1:(E1 = 0) = True:=eq_true k1
 by_cases k2:E2 = 0
 case neg=>
  have z2:(E2 = 0) = False:=eq_false k2
  have hf:OK = false:=by rw [hok,hinv,decide_eq_false k2]; simp
  subst hf
  refine ⟨?_⟩
  simp (config := { maxSteps := 4000000 }) only [↓sxw,sxw,tf16,sxu,sxl,sxm,simprocAttr,e7,dn]
  refine amid (at_n (hrB _) bac_len (by omega) hu fun ad=>?_)
  unfold bac
  simp (config := { maxSteps := 4000000 }) only [↓sxw,sxw,tf16,sxu,sxl,sxm,simprocAttr,ho1,ho2,dn]
  refine CallOb.pureH (fun w' hp=>hrr _ w' hp) ?_
  rintro r N rfl
  refine ⟨?_⟩
  simp (config := { maxSteps := 4000000 }) only [↓sxw,sxw,tf16,sxu,sxl,sxm,simprocAttr,z1,ho1,ho2,dn]
  refine CallOb.pureH (fun w' hp=>hcs _ w' hp) ?_
  rintro r N2 rfl
  refine ⟨?_⟩
  simp (config := { maxSteps := 4000000 }) only [↓sxw,sxw,tf16,sxu,sxl,sxm,simprocAttr,z1,z2,ho1,ho2,dn]
  try rfl
 have z2:(E2 = 0) = True:=eq_true k2
 rw [decide_eq_true k1,decide_eq_true k2,Bool.true_and,Bool.true_and] at hinv
 refine ⟨?_⟩
 simp (config := { maxSteps := 4000000 }) only [↓sxw,sxw,tf16,sxu,sxl,sxm,simprocAttr,e7,dn]
 refine amid (at_n (hrB _) bac_len (by omega) hu fun ad=>?_)
 unfold bac
 simp (config := { maxSteps := 4000000 }) only [↓sxw,sxw,tf16,sxu,sxl,sxm,simprocAttr,ho1,ho2,dn]
 refine CallOb.pureH (fun w' hp=>hrr _ w' hp) ?_
 rintro r N rfl
 refine ⟨?_⟩
 simp (config := { maxSteps := 4000000 }) only [↓sxw,sxw,tf16,sxu,sxl,sxm,simprocAttr,z1,ho1,ho2,dn]
 refine CallOb.pureH (fun w' hp=>hcs _ w' hp) ?_
 rintro r N2 rfl
 refine ⟨?_⟩
 simp (config := { maxSteps := 4000000 }) only [↓sxw,sxw,tf16,sxu,sxl,sxm,simprocAttr,z1,z2,e8,ho1,ho2,dn]
 exact ⟨i + 1,_,rfl,HImp.nil _ _,⟨by omega,rfl,hinv⟩,by omega⟩
end Go.Proofs.YtljpknnhimkkjaaGreatDoor

namespace Go.Proofs.YtljpknnhimkkjaaGreatDoor
open Go.RowKit Go.SX
set_option maxRecDepth 100000
set_option maxHeartbeats 0
set_option linter.unusedSimpArgs false
set_option linter.unusedVariables false
theorem same8_fn (w:World) (v v':Value) (l m:List Int) (hs:Sl w v 1 (ints l)) (hs':Sl w v' 1 (ints m)) (hb:l.length ≤ 1099511627776):SX.Fn Tryz.prog 38 [v,v'] w (fun _=>False) fun r N=>r = .bool (decide (l = m)):=by
 obtain ⟨a,n,c,rfl⟩:=hs.shape
 obtain ⟨a',n',c',rfl⟩:=hs'.shape
 have hn:=hs.le i1_len (by omega)
 have hn':=hs'.le i1_len (by omega)
 subst hn hn'
 have hr:=hs.rd0
 have hr':=hs'.rd0
 refine walk [] [(6,(ones [0,1,2,3,4,5,6,7,8] .fin))] (det0_ok _ _) Tryz.func38 rfl Tryz.ntmps38 res38 (by kernel_rfl) no_facts ?_
 by_cases hl:l.length = m.length
 case neg=>
  have e1:((l.length:Int) = (m.length:Int)) = False:=eq_false (by omega)
  simp (config := { maxSteps := 4000000 }) only [↓sxw,sxw,tf38,sxu,sxl,sxm,simprocAttr,e1]
  rw [decide_eq_false fun h=>hl (by rw [h])]
 have e1:((l.length:Int) = (m.length:Int)) = True:=eq_true (by omega)
 simp (config := { maxSteps := 4000000 }) only [↓sxw,sxw,tf38,sxu,sxl,sxm,simprocAttr,e1]
 refine loop_constH [] (HImp.nil _ _) [(4,5),(11,25)] (fun k:Nat=>[(5,I k)]) (fun k H1=>H1 = [] ∧ k ≤ l.length ∧ (l = m ↔ l.drop k = m.drop k)) (fun k=>l.length - k) 0 ?_ ⟨rfl,Nat.zero_le _,Iff.rfl⟩ ?_
 ·simp (config := { maxSteps := 4000000 }) only [↓sxw,sxw,tf38,sxu,sxl,sxm,simprocAttr]
  try simp
 rintro k H1 g ⟨rfl,hk,ht⟩
 by_cases hkn:k = l.length
 ·have e7:((k:Int) < (l.length:Int)) = False:=eq_false (by omega)
  refine ⟨?_⟩
  simp (config := { maxSteps := 4000000 }) only [↓sxw,sxw,tf38,sxu,sxl,sxm,simprocAttr,e7]
  rw [decide_eq_true (ht.2 (by rw [List.drop_of_length_le (by omega),List.drop_of_length_le (by omega)]))]
 have e7:((k:Int) < (l.length:Int)) = True:=eq_true (by omega)
 have e2:wr ((k:Int) + 1) = ((k + 1:Nat):Int):=(wrap_id (by omega)).trans (by omega)
 have e8:((k:Int) < (m.length:Int)) = True:=eq_true (by omega)
 have hkl:k < l.length:=by omega
 have hkm:k < m.length:=by omega
 rw [List.drop_eq_getElem_cons hkl,List.drop_eq_getElem_cons hkm,List.cons.injEq] at ht
 by_cases hx:l[k] = m[k]
 ·have e3:(l[k] = m[k]) = True:=eq_true hx
  refine ⟨?_⟩
  simp (config := { maxSteps := 4000000 }) only [↓sxw,sxw,tf38,sxu,sxl,sxm,simprocAttr,e7]
  refine amid (at_1 (hr _) i1_len (List.getElem?_eq_getElem hkl) rfl fun ad=>?_)
  simp (config := { maxSteps := 4000000 }) only [↓sxw,sxw,tf38,sxu,sxl,sxm,simprocAttr,e8]
  refine amid (at_1 (hr' _) i1_len (List.getElem?_eq_getElem hkm) rfl fun ad'=>?_)
  simp (config := { maxSteps := 4000000 }) only [↓sxw,sxw,tf38,sxu,sxl,sxm,simprocAttr,e3,e2]
  exact ⟨k + 1,_,rfl,HImp.refl _ _,⟨rfl,by omega,by rw [ht]; simp [hx]⟩,by omega⟩
 ·have e3:(l[k] = m[k]) = False:=eq_false hx
  refine ⟨?_⟩
  simp (config := { maxSteps := 4000000 }) only [↓sxw,sxw,tf38,sxu,sxl,sxm,simprocAttr,e7]
  refine amid (at_1 (hr _) i1_len (List.getElem?_eq_getElem hkl) rfl fun ad=>?_)
  simp (config := { maxSteps := 4000000 }) only [↓sxw,sxw,tf38,sxu,sxl,sxm,simprocAttr,e8]
  refine amid (at_1 (hr' _) i1_len (List.getElem?_eq_getElem hkm) rfl fun ad'=>?_)
  simp (config := { maxSteps := 4000000 }) only [↓sxw,sxw,tf38,sxu,sxl,sxm,simprocAttr,e3]
  rw [decide_eq_false]
  rw [ht]
  exact fun h=>hx h.1
theorem gap_ar:intAr Tryz.prog 92 2 = true:=by kernel_rfl
theorem eq_gap (p q:Int × Int):EqAgg Tryz.prog 92 (spc p) (spc q) (decide (p = q)):=by
 have:=eqArr_ints gap_ar (xs:=[p.1,p.2]) (ys:=[q.1,q.2]) rfl rfl
 have e:decide ([p.1,p.2] = [q.1,q.2]) = decide (p = q):=by
  rw [decide_eq_decide]
  simp [Prod.ext_iff]
 rw [← e]
 exact this
theorem sl_none1 {w:World} {n c:Nat} {l:List Int} (h:Sl w (.slice none n c) 1 (ints l)):l = []:=by
 cases l with
 | nil=>rfl
 | cons y ys=>
  obtain ⟨_,_,_,e,_,hcl⟩:=h
  cases e
  obtain ⟨ad,h,_⟩:=hcl 0 (I y) rfl
  cases h
def Rot2P (x:Cst) (l:List Rft) (relief days:Int) (r:Value) (N:List HO):Prop:=(rotE x l relief days ≠ 0 ∧ r = .tuple #[.slice none 0 0,I (rotE x l relief days)]) ∨ (rotE x l relief days = 0 ∧ ∃ L y,rotO x l relief days = some L ∧ r = .tuple #[y,I 0] ∧ Got y 3 1 i1 L N)
theorem Rotate2_fn (w:World) (hw:Ways w) (v:Value) (x:Cst) (hx:CoOk w v x) (hsm:x.small) (vr:Value) (l:List Rft) (hl:Sl w vr 4 (cat rfc l)) (hll:l.length ≤ 1000) (relief days:Int):
  SX.Fn Tryz.prog 33 [v,vr,I relief,I days] w (fun _=>False) (Rot2P x l relief days):=
 Fn.mono (Fn.okd (Rotate_fn w hw v x hx hsm vr l hl hll relief days)) fun r N ⟨h,w',hN⟩=>by
  rcases h with h | ⟨h0,L,y,h1,h2,h3⟩
  ·exact .inl h
  ·refine .inr ⟨h0,L,y,h1,h2,?_⟩
   rcases h3 with ⟨rfl,rfl⟩ | h3
   ·exact Got.nil _
   ·have hs:=RowOk.sl (hN _ h3)
    obtain ⟨a,n,c,rfl⟩:=hs.shape
    have hn:=hs.le i1_len (by omega)
    subst hn
    exact ⟨a,c,rfl,fun ha=>by subst ha; exact sl_none1 hs,.inr h3⟩
theorem row_one {w:World} {v:Value} {E sz:Nat} {xs:List Value} (h:HO.ok w (HO.row v E sz xs)):v.oneCell' = true:=by
 obtain ⟨a,n,c,rfl⟩:=(RowOk.sl (E:=E) h).shape
 rfl
theorem co_one {w:World} {sD sT sS vb vm:Value} {x:Cst} (h:CoOk w (.agg (cov sD sT sS vb vm x).toArray) x):sD.oneCell' = true ∧ sT.oneCell' = true ∧ sS.oneCell' = true ∧ vb.oneCell' = true ∧ vm.oneCell' = true:=by
 obtain ⟨sD',sT',sS',vb',vm',pb,he,hC,_,h3,_,h5⟩:=h
 unfold cov at he
 injection he with he
 injection he with he
 simp only [List.cons.injEq,true_and,and_true] at he
 obtain ⟨rfl,rfl,rfl,rfl,rfl⟩:=he
 obtain ⟨hD,hT,hS⟩:=hC.parts
 obtain ⟨_,_,_,rfl⟩:=hD.shape
 obtain ⟨_,_,_,rfl⟩:=hT.shape
 obtain ⟨_,_,_,rfl⟩:=hS.shape
 obtain ⟨_,_,_,rfl⟩:=h3.shape
 obtain ⟨_,_,_,rfl⟩:=h5.shape
 exact ⟨rfl,rfl,rfl,rfl,rfl⟩
theorem ExB.mono {N N':List HO} {i:Nat} {p:Bm} (h:ExB N i p) (hm:∀ g ∈ N,g ∈ N'):ExB N' i p:=⟨h.1,hm _ h.2.1,hm _ h.2.2⟩
theorem covered8_fn (w:World) (hw:Ways w) (v:Value) (hx:CoOk w v exCo):SX.Fn Tryz.prog 76 [v] w (fun _=>False) fun r N=>r = .bool true:=by
 have dn:∀ (g:Nat) (xs:List Value),det0 g xs = none:=fun _ _=>rfl
 have hx0:=hx
 obtain ⟨sD,sT,sS,vb,vm,pb,rfl,_⟩:=hx
 obtain ⟨o1,o2,o3,o4,o5⟩:=co_one hx0
 have hcv:=fun (H:List HO) (vl:Value) (hl:HO.row vl 3 1 (ints [1]) ∈ H) w' (hp:Hp ⟨w,fun _=>False⟩ H w')=>Covered_fn w' (hw.hp hp) _ exCo (hx0.hp hp) exCo_small vl [1] (row_hp hl hp) (by decide)
 unfold cov at hcv ⊢
 refine walk [] [] (det0_ok _ _) Tryz.func76 rfl Tryz.ntmps76 res76 (by kernel_rfl) no_facts ?_
 simp (config := { maxSteps := 4000000 }) only [↓sxw,sxw,tf76,sxu,sxl,sxm,simprocAttr,o1,o2,o3,o4,o5,dn]
 intro b5
 refine CallOb.pureH (fun w' hp=>hcv _ _ (by exact List.mem_cons_self) w' hp) ?_
 rintro r N (⟨h,_⟩ | ⟨_,rfl⟩)
 ·exact absurd exCovE h
 rw [exCov]
 refine ⟨?_⟩
 simp (config := { maxSteps := 4000000 }) only [↓sxw,sxw,tf76,sxu,sxl,sxm,simprocAttr,o1,o2,o3,o4,o5,dn]
theorem works8_fn (w:World) (hw:Ways w):SX.Fn Tryz.prog 25 [] w (fun _=>False) fun r N=>r = .bool true:=by
 have dn:∀ (g:Nat) (xs:List Value),det0 g xs = none:=fun _ _=>rfl
 have hgap:=eq_gap (1,0) (1,0)
 rw [decide_eq_true rfl] at hgap
 refine walk [] [] (det0_ok _ _) Tryz.func25 rfl Tryz.ntmps25 res25 (by kernel_rfl) no_facts ?_
 simp (config := { maxSteps := 4000000 }) only [↓sxw,sxw,tf25,sxu,sxl,sxm,simprocAttr,dn]
 refine CallOb.pureH (fun w' hp=>Fn.okd (example8_fn w')) ?_
 rintro r N ⟨⟨sD,sT,sS,vb,vm,vr,pb,rfl,m1,m2,m3,m4,m5,m6,m7,m8⟩,wk,hN⟩
 have o1:=row_one (hN _ m1)
 have o2:=row_one (hN _ m2)
 have o3:=row_one (hN _ m3)
 have o4:=row_one (hN _ m4)
 have o5:=row_one (hN _ m5)
 have o6:=row_one (hN _ m6)
 have hco:∀ (H:List HO) w',Hp ⟨w,fun _=>False⟩ H w' → (∀ h ∈ N,h ∈ H) → CoOk w' (.agg (cov sD sT sS vb vm exCo).toArray) exCo:=fun H w' hp hm=>ex_co (hm _ m1) (hm _ m2) (hm _ m3) (hm _ m4) (hm _ m5) m7 (fun i p hi=>(m8 i p hi).mono hm) hp
 unfold cov at hco ⊢
 refine ⟨?_⟩
 simp (config := { maxSteps := 4000000 }) only [↓sxw,sxw,tf25,sxu,sxl,sxm,simprocAttr,o1,o2,o3,o4,o5,o6,dn]
 refine CallOb.pureH (fun w' hp=>Gaps_fn w' (hw.hp hp) _ exCo (hco _ w' hp (by simp +contextual)) exCo_small 0) ?_
 rintro r N1 (⟨h,_⟩ | ⟨_,v1,rfl,hg⟩)
 ·exact absurd exCal h
 rw [exGap] at hg
 have hgs:=hg.shape
 obtain ⟨a1,c1,rfl⟩:=hgs
 refine ⟨?_⟩
 simp (config := { maxSteps := 4000000 }) only [↓sxw,sxw,tf25,sxu,sxl,sxm,simprocAttr,o1,o2,o3,o4,o5,o6,dn]
 refine CallOb.pureH (fun w' hp=>Rotate2_fn w' (hw.hp hp) _ exCo (hco _ w' hp (by simp +contextual)) exCo_small vr exRf (row_hp (E:=88) (by simp [m6]) hp) (by decide) 1 4) ?_
 rintro r N2 (⟨h,_⟩ | ⟨_,L,y,hL,rfl,hy⟩)
 ·exact absurd exRotE h
 rw [exRot] at hL
 cases hL
 have hys:=hy.shape
 obtain ⟨a2,c2,rfl⟩:=hys
 refine ⟨?_⟩
 simp (config := { maxSteps := 4000000 }) only [↓sxw,sxw,tf25,sxu,sxl,sxm,simprocAttr,o1,o2,o3,o4,o5,o6,dn]
 refine (at_n (k:=0) (hg.rdv spc_len (by simp +contextual)) spc_len (by omega) rfl fun ad=>?_).2.2
 unfold spc
 simp (config := { maxSteps := 4000000 }) only [↓sxw,sxw,tf25,sxu,sxl,sxm,simprocAttr,o1,o2,o3,o4,o5,o6,dn]
 refine ⟨_,hgap,?_⟩
 simp (config := { maxSteps := 4000000 }) only [↓sxw,sxw,tf25,sxu,sxl,sxm,simprocAttr,o1,o2,o3,o4,o5,o6,dn]
 intro b6
 refine CallOb.pureH (fun w' hp=>same8_fn w' _ _ [0,0] [0,0] (hy.hp (by simp +contextual) hp) (row_hp (E:=3) (by exact List.mem_cons_self) hp) (by decide)) ?_
 rintro q N5 rfl
 rw [decide_eq_true rfl]
 refine ⟨?_⟩
 simp (config := { maxSteps := 4000000 }) only [↓sxw,sxw,tf25,sxu,sxl,sxm,simprocAttr,o1,o2,o3,o4,o5,o6,dn]
 refine CallOb.pureH (fun w' hp=>covered8_fn w' (hw.hp hp) _ (hco _ w' hp (by simp +contextual))) ?_
 rintro q N6 rfl
 refine ⟨?_⟩
 simp (config := { maxSteps := 4000000 }) only [↓sxw,sxw,tf25,sxu,sxl,sxm,simprocAttr,o1,o2,o3,o4,o5,o6,dn]
end Go.Proofs.YtljpknnhimkkjaaGreatDoor

