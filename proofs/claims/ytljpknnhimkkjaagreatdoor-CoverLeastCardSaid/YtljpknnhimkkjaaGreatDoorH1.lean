/- Parts of a proof: the symbolic walk and what it shows of single functions. -/
import Derived.Test.YtljpknnhimkkjaaGreatDoorP3
import Derived.Test.YtljpknnhimkkjaaGreatDoorK2
import Derived.Test.YtljpknnhimkkjaaGreatDoorK5
import Derived.Test.YtljpknnhimkkjaaGreatDoorP4
import Derived.Test.YtljpknnhimkkjaaGreatDoorK4
import Derived.Test.YtljpknnhimkkjaaGreatDoorX3
set_option linter.all false
namespace Go.Proofs.YtljpknnhimkkjaaGreatDoor
open Go.RowKit Go.SX
set_option maxRecDepth 10000
set_option maxHeartbeats 0
set_option linter.unusedSimpArgs false
set_option linter.unusedVariables false
structure Bse where
 cls:Cls
 rmp:Rmp
 stn:Stn
 seats:List Int
structure Cst where
 cht:Cht
 bases:List Bse
 marks:List (Int × Int)
 length:Int
 calls:Int
noncomputable def baseB (c:Cht) (b:Bse):Bool:=decide (staE c b.cls b.rmp 0 0 = 0) && decide (chkW b.stn b.seats [] = 0)
noncomputable def markB (c:Cht) (m:Int × Int):Bool:=inB m.1 0 ((c.depth.length:Int) - 1) && inB m.2 0 60
noncomputable def Cst.okB (x:Cst):Bool:=x.cht.okB && inB x.bases.length 1 5 && x.bases.all (baseB x.cht) && inB x.marks.length 1 6 && x.marks.all (markB x.cht) && inB x.length 1 40 && inB x.calls 1 x.cht.tide.length
structure Cst.ok (x:Cst):Prop where
 cht:x.cht.ok
 nb:1 ≤ x.bases.length ∧ x.bases.length ≤ 5
 bas:∀ b ∈ x.bases,staE x.cht b.cls b.rmp 0 0 = 0 ∧ chkW b.stn b.seats [] = 0
 nm:1 ≤ x.marks.length ∧ x.marks.length ≤ 6
 mar:∀ m ∈ x.marks,(0 ≤ m.1 ∧ m.1 < x.cht.depth.length) ∧ 0 ≤ m.2 ∧ m.2 ≤ 60
 len:1 ≤ x.length ∧ x.length ≤ 40
 cal:1 ≤ x.calls ∧ x.calls ≤ x.cht.tide.length
theorem Cst.okB_iff (x:Cst):x.okB = true ↔ x.ok:=by
 unfold Cst.okB baseB markB
 simp only [Bool.and_eq_true,inB_iff,List.all_eq_true,decide_eq_true_eq,Go.Proofs.YtljpknnhimkkjaaGreatDoor.okB_iff]
 constructor
 ·rintro ⟨⟨⟨⟨⟨⟨h1,h2⟩,h3⟩,h4⟩,h5⟩,h6⟩,h7⟩
  exact ⟨h1,by omega,h3,by omega,fun m hm=>by have:=h5 m hm; omega,h6,h7⟩
 ·rintro ⟨h1,h2,h3,h4,h5,h6,h7⟩
  exact ⟨⟨⟨⟨⟨⟨h1,by omega⟩,h3⟩,by omega⟩,fun m hm=>by have:=h5 m hm; omega⟩,h6⟩,h7⟩
noncomputable def arvM (c:Cht) (b:Bse) (cell beg:Nat):Nat → Int
 | 0=>-1
 | m + 1=>if 0 ≤ (reachL c b.cls b.rmp (beg + m)).getD cell 0 ∧ (arvM c b cell beg m = -1 ∨ (reachL c b.cls b.rmp (beg + m)).getD cell 0 < arvM c b cell beg m) then (reachL c b.cls b.rmp (beg + m)).getD cell 0 else arvM c b cell beg m
noncomputable def arv (x:Cst) (b:Bse) (call:Int) (cell:Nat):Int:=if musE b.stn call b.seats x.length = 0 then arvM x.cht b cell (musT b.stn call b.seats x.length).toNat (x.cht.tide.length - (musT b.stn call b.seats x.length).toNat) else -1
noncomputable def arvL (x:Cst) (b:Bse) (call:Int):List Int:=x.marks.map fun m=>arv x b call m.1.toNat
noncomputable def arvA (x:Cst) (call:Int):List (List Int):=x.bases.map fun b=>arvL x b call
theorem arvM_ge (c:Cht) (b:Bse) (cell beg:Nat):∀ m,-1 ≤ arvM c b cell beg m
 | 0=>Int.le_refl _
 | m + 1=>by
  rw [arvM]
  split
  ·omega
  ·exact arvM_ge c b cell beg m
noncomputable def hitB (x:Cst) (call:Int) (k i:Nat):Bool:=decide (((arvA x call).getD i []).getD k 0 ≠ -1) && decide (((arvA x call).getD i []).getD k 0 ≤ call + (x.marks.getD k (0,0)).2)
noncomputable def rchB (x:Cst) (k:Nat) (call:Int) (away:Nat):Bool:=(List.range x.bases.length).any fun i=>!away.testBit i && hitB x call k i
noncomputable def covB (x:Cst) (call:Int) (away:Nat):Bool:=(List.range x.marks.length).all fun k=>rchB x k call away
noncomputable def alwB (x:Cst) (away:Nat):Bool:=(List.range x.calls.toNat).all fun call=>covB x call away
abbrev Bm:=Bse × Value × Value
def snv (p:Bm):Value:=.agg #[p.2.1,I p.1.stn.window,I p.1.stn.duty]
def bac (p:Bm):List Value:=[I p.1.cls.draught,I p.1.cls.seas,I p.1.cls.move,I p.1.cls.idle,I p.1.cls.reserve,I p.1.cls.seats,I p.1.cls.moment,I p.1.rmp.cell,I p.1.rmp.draught,I p.1.rmp.least,I p.1.rmp.most,I p.1.rmp.surf,p.2.1,I p.1.stn.window,I p.1.stn.duty,p.2.2]
theorem bac_len (p:Bm):(bac p).length = 16:=rfl
def BsOk (w:World) (p:Bm):Prop:=StOk w (snv p) p.1.stn ∧ Sl w p.2.2 1 (ints p.1.seats)
theorem BsOk.hp {w0:World} {H:List HO} {p:Bm} (h:BsOk w0 p) {w:World} (hp:Hp ⟨w0,fun _=>False⟩ H w):BsOk w p:=⟨h.1.hp hp,h.2.hp (fun _ _=>id) hp⟩
def cov (sD sT sS vb vm:Value) (x:Cst):List Value:=[I x.cht.wide,I x.cht.high,sD,sT,sS,vb,vm,I x.length,I x.calls]
def CoOk (w:World) (v:Value) (x:Cst):Prop:=∃ sD sT sS vb vm pb,v = .agg (cov sD sT sS vb vm x).toArray ∧ ChOk w (.agg #[I x.cht.wide,I x.cht.high,sD,sT,sS]) x.cht ∧ pb.map Prod.fst = x.bases ∧ Sl w vb 16 (cat bac pb) ∧ (∀ p ∈ pb,BsOk w p) ∧ Sl w vm 2 (cat spc x.marks)
theorem CoOk.hp {w0:World} {H:List HO} {v:Value} {x:Cst} (h:CoOk w0 v x) {w:World} (hp:Hp ⟨w0,fun _=>False⟩ H w):CoOk w v x:=by
 obtain ⟨sD,sT,sS,vb,vm,pb,h1,h2,h3,h4,h5,h6⟩:=h
 exact ⟨sD,sT,sS,vb,vm,pb,h1,h2.hp hp,h3,h4.hp (fun _ _=>id) hp,fun p hm=>(h5 p hm).hp hp,h6.hp (fun _ _=>id) hp⟩
structure Cst.small (x:Cst):Prop where
 cht:x.cht.small
 nb:x.bases.length ≤ 20
 nm:x.marks.length ≤ 30
 bas:∀ b ∈ x.bases,b.stn.small ∧ b.seats.length ≤ 20
end Go.Proofs.YtljpknnhimkkjaaGreatDoor

namespace Go.Proofs.YtljpknnhimkkjaaGreatDoor
open Go.RowKit Go.SX
set_option maxRecDepth 10000
set_option maxHeartbeats 0
set_option linter.unusedSimpArgs false
set_option linter.unusedVariables false
theorem within8_fn (w:World) (n l h:Int):SX.Fn Tryz.prog 58 [I n,I l,I h] w (fun _=>False) fun v N=>v = .bool (inB n l h):=by
 refine walk [] [] (det0_ok _ _) Tryz.func58 rfl Tryz.ntmps58 res58 (by kernel_rfl) no_facts ?_
 simp (config := { maxSteps := 4000000 }) only [↓sxw,sxw,tf58,sxu,sxl,sxm,simprocAttr]
 unfold inB
 exact ⟨fun h1=>by simp [h1],fun h1=>by simp [h1]⟩
theorem rwithin8_fn (w:World) (n l h:Int):SX.Fn Tryz.prog 51 [I n,I l,I h] w (fun _=>False) fun v N=>v = .bool (inB n l h):=by
 refine walk [] [] (det0_ok _ _) Tryz.func51 rfl Tryz.ntmps51 res51 (by kernel_rfl) no_facts ?_
 simp (config := { maxSteps := 4000000 }) only [↓sxw,sxw,tf51,sxu,sxl,sxm,simprocAttr]
 unfold inB
 exact ⟨fun h1=>by simp [h1],fun h1=>by simp [h1]⟩
def detV:Nat → List Value → Option Value
 | 58,[.int .i64 n,.int .i64 l,.int .i64 h]=>some (.bool (inB n l h))
 | 51,[.int .i64 n,.int .i64 l,.int .i64 h]=>some (.bool (inB n l h))
 | _,_=>none
theorem detV_ok (w0:World) (X:Nat → Prop):DetFn Tryz.prog ⟨w0,X⟩ detV:=by
 intro g args v h w hk
 unfold detV at h
 split at h
 ·cases h
  exact det_of_fn (within8_fn w _ _ _)
 ·cases h
  exact det_of_fn (rwithin8_fn w _ _ _)
 ·cases h
theorem detV_eq:(∀ n l h:Int,detV 58 [I n,I l,I h] = some (.bool (inB n l h))) ∧ (∀ n l h:Int,detV 51 [I n,I l,I h] = some (.bool (inB n l h))):=⟨fun _ _ _=>rfl,fun _ _ _=>rfl⟩
theorem watE_nil (s:Stn) (seats:List Int):watE s seats [] = chkW s seats []:=by
 unfold watE
 split
 ·rename_i h
  have:wat s seats [] (mea seats [] [] [] + 1) [] [] = some []:=by
   rw [wat]
   exact if_pos rfl
  rw [this,h]
 ·rfl
theorem watch0_fn (w:World) (v:Value) (s:Stn) (hs:StOk w v s) (hsm:s.small) (vt:Value) (seats:List Int) (hvt:Sl w vt 1 (ints seats)) (hs5:seats.length ≤ 1000):
  SX.Fn Tryz.prog 167 [v,vt,.slice none 0 0] w (fun _=>False) fun r N=>∃ x,r = .tuple #[x,I (chkW s seats [])]:=
 Fn.mono (Fn.okd (watch_fn w v s hs hsm vt seats hvt hs5 (.slice none 0 0) [] (Sl.nil w 2) (Nat.zero_le _))) fun r N ⟨h,hw⟩=>by
  obtain ⟨a,c,ps,h1,_⟩:=h.uni hw
  rw [watE_nil] at h1
  exact ⟨_,h1⟩
structure CoW (w:World) (X:Nat → Prop) (bc bm:Nat) (sD sT sS vb vm:Value) (x:Cst) (pb:List Bm):Prop where
 nc:¬ X bc
 cel:∀ (i:Nat) u,(cov sD sT sS vb vm x ++ [.map (some bm)])[i]? = some u → w.cell? ⟨bc,i,none⟩ = some u
 fst:pb.map Prod.fst = x.bases
 bas:SlX w X vb 16 (cat bac pb)
 mar:SlX w X vm 2 (cat spc x.marks)
 all:∀ w',Keep X w w' → Ways w' ∧ ChOk w' (.agg #[I x.cht.wide,I x.cht.high,sD,sT,sS]) x.cht ∧ ∀ p ∈ pb,BsOk w' p
theorem CoW.keep {w w':World} {X:Nat → Prop} {bc bm:Nat} {sD sT sS vb vm:Value} {x:Cst} {pb:List Bm} (h:CoW w X bc bm sD sT sS vb vm x pb) (hk:Keep X w w'):CoW w' X bc bm sD sT sS vb vm x pb:=
 ⟨h.nc,fun i u hu=>by
  have:=h.cel i u hu
  rw [World.cell?_of_block (w:=w) (hk.block bc (World.block_lt_of_cell? w ⟨bc,i,none⟩ this) h.nc)]
  exact this,h.fst,h.bas.keep hk,h.mar.keep hk,fun w2 h2=>h.all w2 ((hk.trans h2).mono fun b hb=>hb.elim id id)⟩
theorem CoW.mono {w:World} {X Y:Nat → Prop} {bc bm:Nat} {sD sT sS vb vm:Value} {x:Cst} {pb:List Bm} (h:CoW w X bc bm sD sT sS vb vm x pb) (hY:∀ b,Y b → X b):CoW w Y bc bm sD sT sS vb vm x pb:=
 ⟨fun hb=>h.nc (hY _ hb),h.cel,h.fst,⟨h.bas.1,fun h0 b hb hy=>h.bas.2 h0 b hb (hY b hy)⟩,⟨h.mar.1,fun h0 b hb hy=>h.mar.2 h0 b hb (hY b hy)⟩,fun w' hk=>h.all w' (hk.mono hY)⟩
theorem get_pre {l m:List Value} {i:Nat} {v:Value} (h:l[i]? = some v):(l ++ m)[i]? = some v:=by
 rw [List.getElem?_append_left (List.getElem?_eq_some_iff.1 h).1]
 exact h
def pl141_1:Plan:=(ones [0,1,2,3,4,5,6,7,8,9,10,11,12,13,14] .fin)
def pl141:List (Nat × Plan):=[(1,pl141_1)]
theorem pl141_lk:(lkO 1 pl141 = some pl141_1):=rfl
theorem base_fn (w:World) (bc bm:Nat) (sD sT sS vb vm:Value) (x:Cst) (pb:List Bm) (hc:CoW w (fun _=>False) bc bm sD sT sS vb vm x pb) (hsm:x.small) (p:Bm) (hp:p ∈ pb):
  SX.Fn Tryz.prog 141 [.pointer (some ⟨bc,0,none⟩),.agg (bac p).toArray] w (fun _=>False) fun r N=>r = .bool (baseB x.cht p.1):=by
 have hpb:p.1 ∈ x.bases:=by rw [← hc.fst]; exact List.mem_map_of_mem hp
 have hsb:=hsm.bas p.1 hpb
 have hop:=fun (H:List HO) w' (hp':Hp ⟨w,fun _=>False⟩ H w')=>lopen_fn w' (hc.all w' hp'.ext).1 _ x.cht (hc.all w' hp'.ext).2.1 hsm.cht p.1.cls p.1.rmp
 have hwa:=fun (H:List HO) w' (hp':Hp ⟨w,fun _=>False⟩ H w')=>watch0_fn w' _ p.1.stn ((hc.all w' hp'.ext).2.2 p hp).1 hsb.1 p.2.2 p.1.seats ((hc.all w' hp'.ext).2.2 p hp).2 (by omega)
 have dn:∀ (g:Nat) (xs:List Value),det0 g xs = none:=fun _ _=>rfl
 have c0:=hc.cel
 obtain ⟨⟨⟨b1,b2,b3,b4,b5,b6,b7⟩,⟨r1,r2,r3,r4,r5⟩,st,se⟩,hv,vt⟩:=p
 unfold OpensP at hop
 unfold clv rmv at hop
 unfold snv at hwa
 unfold bac baseB
 simp only [] at hop hwa ⊢
 refine walk [] pl141 (det0_ok _ _) Tryz.func141 rfl Tryz.ntmps141 res141 (by kernel_rfl) no_facts ?_
 simp (config := { maxSteps := 4000000 }) only [↓sxw,sxw,tf141,sxu,sxl,sxm,simprocAttr,dn,pl141_lk,pl141_1]
 refine ld_oldn (vs:=[I x.cht.wide,I x.cht.high,sD,sT,sS]) (b:=bc) (o:=0) (by simp [add_block]) (fun i v hi=>by rw [Nat.zero_add]; exact c0 i v (get_pre (m:=[vb,vm,I x.length,I x.calls,.map (some bm)]) hi)) rfl id ?_
 simp (config := { maxSteps := 4000000 }) only [↓sxw,sxw,tf141,sxu,sxl,sxm,simprocAttr,dn]
 refine CallOb.pureH (fun w' hp=>hop _ w' hp) ?_
 intro r N hO
 obtain ⟨E,hE⟩:∃ E,staE x.cht ⟨b1,b2,b3,b4,b5,b6,b7⟩ ⟨r1,r2,r3,r4,r5⟩ 0 0 = E:=⟨_,rfl⟩
 rw [hE] at hO ⊢
 have hr:∃ y,r = .tuple #[y,I E]:=by
  rcases hO with ⟨_,h⟩ | ⟨h0,y,h,_⟩
  ·exact ⟨_,h⟩
  ·exact ⟨y,by rw [h0]; exact h⟩
 obtain ⟨y,rfl⟩:=hr
 obtain ⟨F,hF⟩:∃ F,chkW st se [] = F:=⟨_,rfl⟩
 rw [hF] at hwa ⊢
 refine ⟨?_⟩
 simp (config := { maxSteps := 4000000 }) only [↓sxw,sxw,tf141,sxu,sxl,sxm,simprocAttr,dn]
 refine CallOb.pureH (fun w' hp=>hwa _ w' hp) ?_
 rintro r N2 ⟨z,rfl⟩
 by_cases hE0:E = 0
 ·have z0:(E = 0) = True:=eq_true hE0
  rw [decide_eq_true hE0,Bool.true_and]
  refine ⟨?_⟩
  simp (config := { maxSteps := 4000000 }) only [↓sxw,sxw,tf141,sxu,sxl,sxm,simprocAttr,z0,dn]
  try rfl
 ·have z0:(E = 0) = False:=eq_false hE0
  rw [decide_eq_false hE0,Bool.false_and]
  refine ⟨?_⟩
  simp (config := { maxSteps := 4000000 }) only [↓sxw,sxw,tf141,sxu,sxl,sxm,simprocAttr,z0,dn]
  try rfl
theorem bac_one {w:World} {p:Bm} (h:BsOk w p):p.2.1.oneCell' = true ∧ p.2.2.oneCell' = true:=by
 obtain ⟨⟨hv,ps,h1,_,h2,_⟩,h3⟩:=h
 obtain ⟨a,n,c,e⟩:=h2.shape
 obtain ⟨a2,n2,c2,e2⟩:=h3.shape
 have:p.2.1 = hv:=by
  unfold snv at h1
  injection h1 with h1
  injection h1 with h1
  exact (List.cons.inj h1).1
 rw [this,e,e2]
 exact ⟨rfl,rfl⟩
theorem allB_fn (w:World) (bc bm:Nat) (sD sT sS vb vm:Value) (x:Cst) (pb:List Bm) (hc:CoW w (fun _=>False) bc bm sD sT sS vb vm x pb) (hsm:x.small):
  SX.Fn Tryz.prog 140 [vb,.func (.func 141) #[.pointer (some ⟨bc,0,none⟩)] #[]] w (fun _=>False) fun r N=>r = .bool (x.bases.all (baseB x.cht)):=by
 have hba:=fun (p:Bm) (hp:p ∈ pb) (H:List HO) w' (hp':Hp ⟨w,fun _=>False⟩ H w')=>base_fn w' bc bm sD sT sS vb vm x pb (hc.keep hp'.ext) hsm p hp
 have dn:∀ (g:Nat) (xs:List Value),det0 g xs = none:=fun _ _=>rfl
 have hall:x.bases.all (baseB x.cht) = pb.all fun p=>baseB x.cht p.1:=by rw [← hc.fst,List.all_map]; rfl
 rw [hall]
 obtain ⟨a,n,c,rfl⟩:=hc.bas.1.shape
 have hn:=hc.bas.1.le bac_len (by omega)
 subst hn
 have hpl:pb.length = x.bases.length:=by rw [← hc.fst,List.length_map]
 have hbl:=hsm.nb
 have hr:=fun H=>hc.bas.1.rd0 H
 have hone:=fun (p:Bm) (hp:p ∈ pb)=>bac_one ((hc.all w (Keep.refl _ w)).2.2 p hp)
 unfold bac at hba
 refine walk [] [] (det0_ok _ _) Tryz.func140 rfl Tryz.ntmps140 res140 (by kernel_rfl) no_facts ?_
 simp (config := { maxSteps := 4000000 }) only [↓sxw,sxw,tf140,sxu,sxl,sxm,simprocAttr,dn]
 refine loop_constH [] (HImp.nil _ _) [(4,4),(6,6),(9,17)] (fun i:Nat=>[(9,I i)]) (fun i H1=>i ≤ pb.length ∧ H1 = [] ∧ (pb.all fun p=>baseB x.cht p.1) = ((pb.drop i).all fun p=>baseB x.cht p.1)) (fun i=>pb.length - i) 0 ?_ ⟨Nat.zero_le _,rfl,rfl⟩ ?_
 ·simp (config := { maxSteps := 4000000 }) only [↓sxw,sxw,tf140,sxu,sxl,sxm,simprocAttr]
  try simp
 rintro i H1 g1 ⟨hi,rfl,hinv⟩
 by_cases hin:i = pb.length
 ·have e7:((i:Int) < (pb.length:Int)) = False:=eq_false (by omega)
  rw [List.drop_of_length_le (by omega)] at hinv
  rw [hinv]
  refine ⟨?_⟩
  simp (config := { maxSteps := 4000000 }) only [↓sxw,sxw,tf140,sxu,sxl,sxm,simprocAttr,e7,dn]
  try rfl
 have e7:((i:Int) < (pb.length:Int)) = True:=eq_true (by omega)
 have e8:wr (i + 1) = ((i + 1:Nat):Int):=(wrap_id (by omega)).trans (by omega)
 have hil:i < pb.length:=by omega
 have hu:=List.getElem?_eq_getElem hil
 have hm:=List.getElem_mem hil
 rw [List.drop_eq_getElem_cons hil,List.all_cons] at hinv
 generalize pb[i] = p at hu hm hinv
 obtain ⟨ho1,ho2⟩:=hone p hm
 have hbp:=hba p hm
 obtain ⟨B,hB⟩:∃ B,baseB x.cht p.1 = B:=⟨_,rfl⟩
 rw [hB] at hbp hinv
 refine ⟨?_⟩
 simp (config := { maxSteps := 4000000 }) only [↓sxw,sxw,tf140,sxu,sxl,sxm,simprocAttr,e7,dn]
 refine amid (at_n (hr _) bac_len (by omega) hu fun ad=>?_)
 unfold bac
 simp (config := { maxSteps := 4000000 }) only [↓sxw,sxw,tf140,sxu,sxl,sxm,simprocAttr,ho1,ho2,dn]
 refine ⟨Tryz.call141,?_⟩
 refine CallOb.pureH (fun w' hp=>hbp _ w' hp) ?_
 rintro r N rfl
 cases B with
 | false=>
  rw [Bool.false_and] at hinv
  rw [hinv]
  refine ⟨?_⟩
  simp (config := { maxSteps := 4000000 }) only [↓sxw,sxw,tf140,sxu,sxl,sxm,simprocAttr,dn]
  try rfl
 | true=>
  rw [Bool.true_and] at hinv
  refine ⟨?_⟩
  simp (config := { maxSteps := 4000000 }) only [↓sxw,sxw,tf140,sxu,sxl,sxm,simprocAttr,e8,dn]
  exact ⟨i + 1,_,rfl,HImp.nil _ _,⟨by omega,rfl,hinv⟩,by omega⟩
def pl143_1:Plan:=(ones [0,1,2,3,4,5,6,7,8,9,10,11,12,13,14,15,16] .fin)
def pl143:List (Nat × Plan):=[(1,pl143_1)]
theorem pl143_lk:(lkO 1 pl143 = some pl143_1):=rfl
theorem mark_fn (w:World) (bc bm:Nat) (sD sT sS vb vm:Value) (x:Cst) (pb:List Bm) (hc:CoW w (fun _=>False) bc bm sD sT sS vb vm x pb) (hsm:x.small) (m:Int × Int):
  SX.Fn Tryz.prog 143 [.pointer (some ⟨bc,0,none⟩),.agg #[I m.1,I m.2]] w (fun _=>False) fun r N=>r = .bool (markB x.cht m):=by
 have c2:=hc.cel 2 _ rfl
 obtain ⟨_,⟨sD',sT',sS',he,hD,hT,hS⟩,_⟩:=hc.all w (Keep.refl _ w)
 have hcs:=hsm.cht
 have h1:sD' = sD:=by
  injection he with he
  injection he with he
  have h2:=(List.cons.inj (List.cons.inj (List.cons.inj he).2).2).1
  exact h2.symm
 subst h1
 obtain ⟨aD,nD,cD,rfl⟩:=hD.shape
 have hn:=hD.le i1_len (by omega)
 subst hn
 have e1:wr ((x.cht.depth.length:Int) - 1) = (x.cht.depth.length:Int) - 1:=wrap_id (by have:=hcs.1; omega)
 obtain ⟨m1,m2⟩:=m
 unfold markB
 simp only []
 refine walk [] pl143 (detV_ok _ _) Tryz.func143 rfl Tryz.ntmps143 res143 (by kernel_rfl) no_facts ?_
 cases h1:inB m1 0 ((x.cht.depth.length:Int) - 1) with
 | false=>
  simp (config := { maxSteps := 4000000 }) only [↓sxw,sxw,tf143,sxu,sxl,sxm,simprocAttr,detV_eq,h1,pl143_lk,pl143_1]
  refine ld_olda (b:=bc) (o:=2) (by simp [add_block]) c2 id ?_
  simp (config := { maxSteps := 4000000 }) only [↓sxw,sxw,tf143,sxu,sxl,sxm,simprocAttr,detV_eq,e1,h1]
  try rfl
 | true=>
  simp (config := { maxSteps := 4000000 }) only [↓sxw,sxw,tf143,sxu,sxl,sxm,simprocAttr,detV_eq,h1,pl143_lk,pl143_1]
  refine ld_olda (b:=bc) (o:=2) (by simp [add_block]) c2 id ?_
  simp (config := { maxSteps := 4000000 }) only [↓sxw,sxw,tf143,sxu,sxl,sxm,simprocAttr,detV_eq,e1,h1]
  try rfl
theorem allM_fn (w:World) (bc bm:Nat) (sD sT sS vb vm:Value) (x:Cst) (pb:List Bm) (hc:CoW w (fun _=>False) bc bm sD sT sS vb vm x pb) (hsm:x.small):
  SX.Fn Tryz.prog 142 [vm,.func (.func 143) #[.pointer (some ⟨bc,0,none⟩)] #[]] w (fun _=>False) fun r N=>r = .bool (x.marks.all (markB x.cht)):=by
 have hma:=fun (m:Int × Int) (H:List HO) w' (hp':Hp ⟨w,fun _=>False⟩ H w')=>mark_fn w' bc bm sD sT sS vb vm x pb (hc.keep hp'.ext) hsm m
 have dn:∀ (g:Nat) (xs:List Value),det0 g xs = none:=fun _ _=>rfl
 obtain ⟨a,n,c,rfl⟩:=hc.mar.1.shape
 have hn:=hc.mar.1.le spc_len (by omega)
 subst hn
 have hml:=hsm.nm
 have hr:=fun H=>hc.mar.1.rd0 H
 refine walk [] [] (det0_ok _ _) Tryz.func142 rfl Tryz.ntmps142 res142 (by kernel_rfl) no_facts ?_
 simp (config := { maxSteps := 4000000 }) only [↓sxw,sxw,tf142,sxu,sxl,sxm,simprocAttr,dn]
 refine loop_constH [] (HImp.nil _ _) [(4,4),(6,6),(9,17)] (fun i:Nat=>[(9,I i)]) (fun i H1=>i ≤ x.marks.length ∧ H1 = [] ∧ x.marks.all (markB x.cht) = ((x.marks.drop i).all (markB x.cht))) (fun i=>x.marks.length - i) 0 ?_ ⟨Nat.zero_le _,rfl,rfl⟩ ?_
 ·simp (config := { maxSteps := 4000000 }) only [↓sxw,sxw,tf142,sxu,sxl,sxm,simprocAttr]
  try simp
 rintro i H1 g1 ⟨hi,rfl,hinv⟩
 by_cases hin:i = x.marks.length
 ·have e7:((i:Int) < (x.marks.length:Int)) = False:=eq_false (by omega)
  rw [List.drop_of_length_le (by omega)] at hinv
  rw [hinv]
  refine ⟨?_⟩
  simp (config := { maxSteps := 4000000 }) only [↓sxw,sxw,tf142,sxu,sxl,sxm,simprocAttr,e7,dn]
  try rfl
 have e7:((i:Int) < (x.marks.length:Int)) = True:=eq_true (by omega)
 have e8:wr (i + 1) = ((i + 1:Nat):Int):=(wrap_id (by omega)).trans (by omega)
 have hil:i < x.marks.length:=by omega
 have hu:=List.getElem?_eq_getElem hil
 rw [List.drop_eq_getElem_cons hil,List.all_cons] at hinv
 generalize x.marks[i] = m at hu hinv
 have hbp:=hma m
 obtain ⟨B,hB⟩:∃ B,markB x.cht m = B:=⟨_,rfl⟩
 rw [hB] at hbp hinv
 refine ⟨?_⟩
 simp (config := { maxSteps := 4000000 }) only [↓sxw,sxw,tf142,sxu,sxl,sxm,simprocAttr,e7,dn]
 refine amid (at_n (hr _) spc_len (by omega) hu fun ad=>?_)
 unfold spc
 simp (config := { maxSteps := 4000000 }) only [↓sxw,sxw,tf142,sxu,sxl,sxm,simprocAttr,dn]
 refine ⟨Tryz.call143,?_⟩
 refine CallOb.pureH (fun w' hp=>hbp _ w' hp) ?_
 rintro r N rfl
 cases B with
 | false=>
  rw [Bool.false_and] at hinv
  rw [hinv]
  refine ⟨?_⟩
  simp (config := { maxSteps := 4000000 }) only [↓sxw,sxw,tf142,sxu,sxl,sxm,simprocAttr,dn]
  try rfl
 | true=>
  rw [Bool.true_and] at hinv
  refine ⟨?_⟩
  simp (config := { maxSteps := 4000000 }) only [↓sxw,sxw,tf142,sxu,sxl,sxm,simprocAttr,e8,dn]
  exact ⟨i + 1,_,rfl,HImp.nil _ _,⟨by omega,rfl,hinv⟩,by omega⟩
end Go.Proofs.YtljpknnhimkkjaaGreatDoor

namespace Go.Proofs.YtljpknnhimkkjaaGreatDoor
open Go.RowKit Go.SX
set_option maxRecDepth 10000
set_option maxHeartbeats 0
set_option linter.unusedSimpArgs false
set_option linter.unusedVariables false
theorem new_fpsx {w w':World} {A B:List HO} (hp:Hp ⟨w,fun _=>False⟩ (A ++ B) w') {b:Nat} (hb:b < w.heap.size):¬ fpsx A b:=fun ⟨g,hg,hgb⟩=>by
 have:=(hp.old g (List.mem_append_left _ hg) b hgb).resolve_left id
 have this:w.heap.size ≤ b:=this
 omega
theorem CoW.of {w w':World} {A B:List HO} {bc bm:Nat} {sD sT sS vb vm:Value} {x:Cst} {pb:List Bm} (hp:Hp ⟨w,fun _=>False⟩ (A ++ B) w') (hw:Ways w) (hm:HO.cells bc 117 (cov sD sT sS vb vm x ++ [.map (some bm)]) ∈ B)
  (h1:ChOk w (.agg #[I x.cht.wide,I x.cht.high,sD,sT,sS]) x.cht) (h2:pb.map Prod.fst = x.bases) (h3:Sl w vb 16 (cat bac pb)) (h4:∀ p ∈ pb,BsOk w p) (h5:Sl w vm 2 (cat spc x.marks)):CoW w' (fpsx A) bc bm sD sT sS vb vm x pb:=by
 refine ⟨not_fpsx hp hm rfl,fun i u hu=>?_,h2,slx_old h3 hp,slx_old h5 hp,fun w2 hk=>?_⟩
 ·rw [cell_of_cells (hp.ok _ (List.mem_append_right _ hm))]
  simpa using hu
 ·have hk2:Keep (fun b=>False ∨ fpsx A b) w w2:=hp.ext.trans hk
  have hX:∀ b,b < w.heap.size → ¬ (False ∨ fpsx A b):=fun b hb h=>new_fpsx hp hb (h.resolve_left id)
  exact ⟨hw.keep hk2 (hX _ (ways_lt hw)),h1.keep hk2 hX,fun p hpm=>⟨(h4 p hpm).1.keepR hk2 hX,(h4 p hpm).2.keepR hk2 fun b hb=>hX b hb.2⟩⟩
def OpP (sD sT sS vb vm:Value) (x:Cst) (r:Value) (N:List HO):Prop:=(x.okB = false ∧ r = .tuple #[.pointer none,I 80] ∧ N = []) ∨ (x.okB = true ∧ ∃ bc bm,r = .tuple #[.pointer (some ⟨bc,0,none⟩),I 0] ∧ N = [HO.cells bc 117 (cov sD sT sS vb vm x ++ [.map (some bm)]),mapO .i64 bm []])
theorem open8_fn (w:World) (hw:Ways w) (sD sT sS vb vm:Value) (x:Cst) (pb:List Bm) (hC:ChOk w (.agg #[I x.cht.wide,I x.cht.high,sD,sT,sS]) x.cht) (h2:pb.map Prod.fst = x.bases) (h3:Sl w vb 16 (cat bac pb)) (h4:∀ p ∈ pb,BsOk w p) (h5:Sl w vm 2 (cat spc x.marks)) (hsm:x.small):
  SX.Fn Tryz.prog 91 [.agg (cov sD sT sS vb vm x).toArray] w (fun _=>False) (OpP sD sT sS vb vm x):=by
 refine Fn.sub ?_
 have hck:=fun (H:List HO) w' (hp:Hp ⟨w,fun _=>False⟩ H w')=>check_fn w' _ x.cht (hC.hp hp) hsm.cht
 have hco:=fun (bc bm:Nat) (H:List HO) (hm:HO.cells bc 117 (cov sD sT sS vb vm x ++ [.map (some bm)]) ∈ H) w' (hp:Hp ⟨w,fun _=>False⟩ H w')=>(CoW.of (A:=[]) hp hw hm hC h2 h3 h4 h5).mono (Y:=fun _=>False) fun b hb=>hb.elim
 have hab:=fun (bc bm:Nat) (H:List HO) (hm:HO.cells bc 117 (cov sD sT sS vb vm x ++ [.map (some bm)]) ∈ H) w' (hp:Hp ⟨w,fun _=>False⟩ H w')=>allB_fn w' bc bm sD sT sS vb vm x pb (hco bc bm H hm w' hp) hsm
 have ham:=fun (bc bm:Nat) (H:List HO) (hm:HO.cells bc 117 (cov sD sT sS vb vm x ++ [.map (some bm)]) ∈ H) w' (hp:Hp ⟨w,fun _=>False⟩ H w')=>allM_fn w' bc bm sD sT sS vb vm x pb (hco bc bm H hm w' hp) hsm
 have dn:(∀ xs,detV 60 xs = none) ∧ (∀ xs,detV 140 xs = none) ∧ (∀ xs,detV 142 xs = none):=⟨fun _=>rfl,fun _=>rfl,fun _=>rfl⟩
 have hpl:pb.length = x.bases.length:=by rw [← h2,List.length_map]
 obtain ⟨aB,nB,cB,rfl⟩:=h3.shape
 have hnB:=h3.le bac_len (by omega)
 subst hnB
 obtain ⟨aM,nM,cM,rfl⟩:=h5.shape
 have hnM:=h5.le spc_len (by omega)
 subst hnM
 have hsT:∃ aT cT,sT = .slice aT x.cht.tide.length cT:=by
  obtain ⟨sD',sT',sS',he,hD,hT,hS⟩:=hC
  obtain ⟨aT,nT,cT,rfl⟩:=hT.shape
  have hnT:=hT.le spc_len (by omega)
  subst hnT
  injection he with he
  injection he with he
  exact ⟨aT,cT,(List.cons.inj (List.cons.inj (List.cons.inj (List.cons.inj he).2).2).2).1⟩
 obtain ⟨aT,cT,rfl⟩:=hsT
 have hok:x.okB = (x.cht.okB && inB x.bases.length 1 5 && x.bases.all (baseB x.cht) && inB x.marks.length 1 6 && x.marks.all (markB x.cht) && inB x.length 1 40 && inB x.calls 1 x.cht.tide.length):=rfl
 unfold OpP
 obtain ⟨OK,hOK⟩:∃ b,x.okB = b:=⟨_,rfl⟩
 rw [hOK] at hok ⊢
 rw [← hpl] at hok
 obtain ⟨B1,hB1⟩:∃ b,x.cht.okB = b:=⟨_,rfl⟩
 obtain ⟨B2,hB2⟩:∃ b,inB (pb.length:Int) 1 5 = b:=⟨_,rfl⟩
 obtain ⟨B3,hB3⟩:∃ b,x.bases.all (baseB x.cht) = b:=⟨_,rfl⟩
 obtain ⟨B4,hB4⟩:∃ b,inB (x.marks.length:Int) 1 6 = b:=⟨_,rfl⟩
 obtain ⟨B5,hB5⟩:∃ b,x.marks.all (markB x.cht) = b:=⟨_,rfl⟩
 obtain ⟨B6,hB6⟩:∃ b,inB x.length 1 40 = b:=⟨_,rfl⟩
 obtain ⟨B7,hB7⟩:∃ b,inB x.calls 1 x.cht.tide.length = b:=⟨_,rfl⟩
 simp only [hB1] at hck
 simp only [hB3] at hab
 simp only [hB5] at ham
 rw [hB1,hB2,hB3,hB4,hB5,hB6,hB7] at hok
 unfold cov at hab ham ⊢
 simp only [List.cons_append,List.nil_append] at hab ham ⊢
 refine walk [8] [] (detV_ok _ _) Tryz.func91 rfl Tryz.ntmps91 res91 (by kernel_rfl) (H0:=[]) ⟨fun g hg=>by (cases hg),fun g hg=>by (cases hg),List.Pairwise.nil⟩ ?_
 simp (config := { maxSteps := 4000000 }) only [↓sxw,sxw,tf91,sxu,sxl,sxm,simprocAttr,dn]
 intro bm bc
 refine CallOb.pureH (fun w' hp=>hck _ w' hp) ?_
 rintro r N rfl
 cases B1 with
 | false=>
  have hf:OK = false:=by rw [hok]; simp
  refine ⟨?_⟩
  simp (config := { maxSteps := 4000000 }) only [↓sxw,sxw,tf91,sxu,sxl,sxm,simprocAttr,dn,detV_eq]
  exact ⟨[],List.nil_sublist _,.inl ⟨hf,rfl⟩⟩
 | true=>
 cases B2 with
 | false=>
  have hf:OK = false:=by rw [hok]; simp
  refine ⟨?_⟩
  simp (config := { maxSteps := 4000000 }) only [↓sxw,sxw,tf91,sxu,sxl,sxm,simprocAttr,hB2,dn,detV_eq]
  exact ⟨[],List.nil_sublist _,.inl ⟨hf,rfl⟩⟩
 | true=>
 refine ⟨?_⟩
 simp (config := { maxSteps := 4000000 }) only [↓sxw,sxw,tf91,sxu,sxl,sxm,simprocAttr,hB2,dn,detV_eq]
 refine CallOb.pureH (fun w' hp=>hab bc bm _ (by simp) w' hp) ?_
 rintro r N2 rfl
 cases B3 with
 | false=>
  have hf:OK = false:=by rw [hok]; simp
  refine ⟨?_⟩
  simp (config := { maxSteps := 4000000 }) only [↓sxw,sxw,tf91,sxu,sxl,sxm,simprocAttr,dn,detV_eq]
  exact ⟨[],List.nil_sublist _,.inl ⟨hf,rfl⟩⟩
 | true=>
 cases B4 with
 | false=>
  have hf:OK = false:=by rw [hok]; simp
  refine ⟨?_⟩
  simp (config := { maxSteps := 4000000 }) only [↓sxw,sxw,tf91,sxu,sxl,sxm,simprocAttr,hB4,dn,detV_eq]
  exact ⟨[],List.nil_sublist _,.inl ⟨hf,rfl⟩⟩
 | true=>
 refine ⟨?_⟩
 simp (config := { maxSteps := 4000000 }) only [↓sxw,sxw,tf91,sxu,sxl,sxm,simprocAttr,hB4,dn,detV_eq]
 refine CallOb.pureH (fun w' hp=>ham bc bm _ (by simp) w' hp) ?_
 rintro r N3 rfl
 cases B5 with
 | false=>
  have hf:OK = false:=by rw [hok]; simp
  refine ⟨?_⟩
  simp (config := { maxSteps := 4000000 }) only [↓sxw,sxw,tf91,sxu,sxl,sxm,simprocAttr,dn,detV_eq]
  exact ⟨[],List.nil_sublist _,.inl ⟨hf,rfl⟩⟩
 | true=>
 cases B6 with
 | false=>
  have hf:OK = false:=by rw [hok]; simp
  refine ⟨?_⟩
  simp (config := { maxSteps := 4000000 }) only [↓sxw,sxw,tf91,sxu,sxl,sxm,simprocAttr,hB6,dn,detV_eq]
  exact ⟨[],List.nil_sublist _,.inl ⟨hf,rfl⟩⟩
 | true=>
 cases B7 with
 | false=>
  have hf:OK = false:=by rw [hok]; simp
  refine ⟨?_⟩
  simp (config := { maxSteps := 4000000 }) only [↓sxw,sxw,tf91,sxu,sxl,sxm,simprocAttr,hB6,hB7,dn,detV_eq]
  exact ⟨[],List.nil_sublist _,.inl ⟨hf,rfl⟩⟩
 | true=>
 have hf:OK = true:=by rw [hok]; simp
 refine ⟨?_⟩
 simp (config := { maxSteps := 4000000 }) only [↓sxw,sxw,tf91,sxu,sxl,sxm,simprocAttr,hB6,hB7,dn,detV_eq]
 refine ⟨_,?_,.inr ⟨hf,bc,bm,rfl,rfl⟩⟩
 exact (List.sublist_append_right _ _).trans ((List.sublist_append_right _ _).trans (List.sublist_append_right _ _))
end Go.Proofs.YtljpknnhimkkjaaGreatDoor

namespace Go.Proofs.YtljpknnhimkkjaaGreatDoor
open Go.RowKit Go.SX
set_option maxRecDepth 10000
set_option maxHeartbeats 0
set_option linter.unusedSimpArgs false
set_option linter.unusedVariables false
theorem musT_bnd {s:Stn} {call:Int} {seats:List Int} {len:Int} (h:musE s call seats len = 0):0 ≤ call ∧ call ≤ musT s call seats len ∧ musT s call seats len ≤ call + 100 ∧ call ≤ 100:=by
 unfold musE at h
 split at h
 ·rename_i h0
  have hc:=(callE_zero h0).2.1
  unfold musT
  rw [if_pos h0]
  cases hg:musG s call len seats with
  | none=>rw [hg] at h; cases h
  | some q=>
   obtain ⟨j,l⟩:=q
   have hj:j < 101:=by
    unfold musG at hg
    obtain ⟨x,hx,he⟩:=List.exists_of_findSome?_eq_some hg
    have hx:=List.mem_range.1 hx
    cases hf:fillG (okS (atL s call len (call + (x:Int))) s.hands seats) s.hands.length seats.length [] with
    | none=>rw [hf] at he; cases he
    | some l2=>
     rw [hf] at he
     simp only [Option.map_some,Option.some.injEq,Prod.mk.injEq] at he
     omega
   simp only []
   omega
 ·rename_i h0
  exact absurd h h0
theorem tick_fn (w:World) (bc bm:Nat) (sD sT sS vb vm:Value) (x:Cst) (pb:List Bm) (hc:CoW w (fun _=>False) bc bm sD sT sS vb vm x pb) (t:Int) (hsm:x.small):
  SX.Fn Tryz.prog 154 [.pointer (some ⟨bc,0,none⟩),I t] w (fun _=>False) fun r N=>r = .bool (inB t 0 ((x.cht.tide.length:Int) - 1)):=by
 have c3:=hc.cel 3 _ rfl
 obtain ⟨_,⟨sD',sT',sS',he,hD,hT,hS⟩,_⟩:=hc.all w (Keep.refl _ w)
 have hcs:=hsm.cht
 have h1:sT' = sT:=by
  injection he with he
  injection he with he
  exact (List.cons.inj (List.cons.inj (List.cons.inj (List.cons.inj he).2).2).2).1.symm
 subst h1
 obtain ⟨aT,nT,cT,rfl⟩:=hT.shape
 have hn:=hT.le spc_len (by omega)
 subst hn
 have e1:wr ((x.cht.tide.length:Int) - 1) = (x.cht.tide.length:Int) - 1:=wrap_id (by have:=hcs.2.1; omega)
 refine walk [] [] (detV_ok _ _) Tryz.func154 rfl Tryz.ntmps154 res154 (by kernel_rfl) no_facts ?_
 simp (config := { maxSteps := 4000000 }) only [↓sxw,sxw,tf154,sxu,sxl,sxm,simprocAttr]
 refine ld_olda (b:=bc) (o:=3) (by simp [add_block]) c3 id ?_
 simp (config := { maxSteps := 4000000 }) only [↓sxw,sxw,tf154,sxu,sxl,sxm,simprocAttr,detV_eq,e1]
 try rfl
theorem reachL_len (c:Cht) (b:Cls) (r:Rmp) (t:Nat):(reachL c b r t).length = c.depth.length:=by
 unfold reachL
 split
 ·rw [List.length_map,List.length_range]
 ·rw [List.length_replicate]
noncomputable def arvW (x:Cst) (b:Bse) (beg m i:Nat):List Int:=(List.range x.marks.length).map fun k=>arvM x.cht b (x.marks.getD k (0,0)).1.toNat beg (if k < i then m + 1 else m)
theorem arvW_len (x:Cst) (b:Bse) (beg m i:Nat):(arvW x b beg m i).length = x.marks.length:=by unfold arvW; rw [List.length_map,List.length_range]
theorem arvW_get {x:Cst} {b:Bse} {beg m i k:Nat} (h:k < x.marks.length):(arvW x b beg m i)[k]? = some (arvM x.cht b (x.marks.getD k (0,0)).1.toNat beg (if k < i then m + 1 else m)):=by
 unfold arvW
 rw [List.getElem?_map,List.getElem?_range h]
 rfl
theorem arvW_next {x:Cst} {b:Bse} {beg m:Nat}:arvW x b beg m x.marks.length = arvW x b beg (m + 1) 0:=by
 unfold arvW
 apply List.map_congr_left
 intro k hk
 rw [if_pos (List.mem_range.1 hk),if_neg (Nat.not_lt_zero _)]
theorem arvW_zero {x:Cst} {b:Bse} {beg:Nat}:arvW x b beg 0 0 = List.replicate x.marks.length (-1):=by
 unfold arvW
 have:∀ k ∈ List.range x.marks.length,arvM x.cht b (x.marks.getD k (0,0)).1.toNat beg (if k < 0 then 0 + 1 else 0) = -1:=fun k _=>by rw [if_neg (Nat.not_lt_zero _)]; rfl
 rw [List.map_congr_left this,List.map_const',List.length_range]
theorem arvW_set {x:Cst} {b:Bse} {beg m i:Nat} (h:i < x.marks.length):(arvW x b beg m i).set i (arvM x.cht b (x.marks.getD i (0,0)).1.toNat beg (m + 1)) = arvW x b beg m (i + 1):=by
 apply List.ext_getElem?
 intro k
 by_cases hk:k < x.marks.length
 ·by_cases e:k = i
  ·subst e
   rw [List.getElem?_set_self (by rw [arvW_len]; exact h),arvW_get hk,if_pos (by omega)]
  ·rw [List.getElem?_set_ne (by omega),arvW_get hk,arvW_get hk]
   by_cases h2:k < i
   ·rw [if_pos h2,if_pos (by omega)]
   ·rw [if_neg h2,if_neg (by omega)]
 ·rw [List.getElem?_eq_none (by rw [List.length_set,arvW_len]; omega),List.getElem?_eq_none (by rw [arvW_len]; omega)]
theorem arvW_done {x:Cst} {b:Bse} {call:Int} (h:musE b.stn call b.seats x.length = 0):arvW x b (musT b.stn call b.seats x.length).toNat (x.cht.tide.length - (musT b.stn call b.seats x.length).toNat) 0 = arvL x b call:=by
 unfold arvW arvL arv
 apply List.ext_getElem?
 intro k
 rw [List.getElem?_map,List.getElem?_map]
 by_cases hk:k < x.marks.length
 ·rw [List.getElem?_range hk,List.getElem?_eq_getElem hk]
  simp only [Option.map_some]
  rw [if_neg (Nat.not_lt_zero _),if_pos h,List.getD_eq_getElem?_getD,List.getElem?_eq_getElem hk]
  rfl
 ·rw [List.getElem?_eq_none (by rw [List.length_range]; omega),List.getElem?_eq_none (by omega)]
  rfl
theorem arvL_none {x:Cst} {b:Bse} {call:Int} (h:musE b.stn call b.seats x.length ≠ 0):arvL x b call = List.replicate x.marks.length (-1):=by
 unfold arvL arv
 have:∀ m ∈ x.marks,(if musE b.stn call b.seats x.length = 0 then arvM x.cht b m.1.toNat (musT b.stn call b.seats x.length).toNat (x.cht.tide.length - (musT b.stn call b.seats x.length).toNat) else -1) = -1:=fun m _=>if_neg h
 rw [List.map_congr_left this,List.map_const']
def pl110_2:Plan:=(ones [0,1,2,3,4,5,6,7,8,9,10,11,12,13,14,15,16,17] .fin)
def pl110_8:Plan:=(ones [0,1,2,3,4,5,6,7,8,9,10,11,12,13,14,15] .fin)
def pl110:List (Nat × Plan):=[(2,pl110_2),(8,pl110_8)]
theorem pl110_lk:(lkO 2 pl110 = some pl110_2) ∧ (lkO 8 pl110 = some pl110_8):=⟨rfl,rfl⟩
theorem arrive_fn (w:World) (bc bm:Nat) (sD sT sS vb vm:Value) (x:Cst) (pb:List Bm) (hc:CoW w (fun _=>False) bc bm sD sT sS vb vm x pb) (hsm:x.small) (hok:x.ok) (p:Bm) (hp:p ∈ pb) (call:Int):
  SX.Fn Tryz.prog 110 [.pointer (some ⟨bc,0,none⟩),.agg (bac p).toArray,I call] w (fun _=>False) fun r N=>∃ b c,r = .slice (some ⟨b,0,none⟩) x.marks.length c ∧ N = [HO.row (.slice (some ⟨b,0,none⟩) x.marks.length c) 3 1 (ints (arvL x p.1 call))]:=by
 refine Fn.sub ?_
 have hpb:p.1 ∈ x.bases:=by rw [← hc.fst]; exact List.mem_map_of_mem hp
 have hsb:=hsm.bas p.1 hpb
 have hst:=(hok.bas p.1 hpb).1
 have hml:=hsm.nm
 have hm1:=hok.nm
 have hmu:=fun (H:List HO) w' (hp':Hp ⟨w,fun _=>False⟩ H w')=>muster1_fn w' _ p.1.stn ((hc.all w' hp'.ext).2.2 p hp).1 hsb.1 call p.2.2 p.1.seats ((hc.all w' hp'.ext).2.2 p hp).2 (by omega) x.length
 have hre:=fun (t:Int) (H:List HO) w' (hp':Hp ⟨w,fun _=>False⟩ H w')=>lreach_fn w' (hc.all w' hp'.ext).1 _ x.cht (hc.all w' hp'.ext).2.1 hsm.cht p.1.cls p.1.rmp t
 have hti:=fun (t:Int) (H:List HO) w' (hp':Hp ⟨w,fun _=>False⟩ H w')=>tick_fn w' bc bm sD sT sS vb vm x pb (hc.keep hp'.ext) t hsm
 have dn:∀ (g:Nat) (xs:List Value),det0 g xs = none:=fun _ _=>rfl
 have c0:=hc.cel
 have c6:=hc.cel 6 _ rfl
 have c7:=hc.cel 7 _ rfl
 have hrm:=fun H=>hc.mar.1.rd0 H
 obtain ⟨aM,nM,cM,rfl⟩:=hc.mar.1.shape
 have hnM:=hc.mar.1.le spc_len (by omega)
 subst hnM
 have hmt:=fun h=>musT_bnd (s:=p.1.stn) (call:=call) (seats:=p.1.seats) (len:=x.length) h
 have hdone:=arvW_done (x:=x) (b:=p.1) (call:=call)
 have hnone:=arvL_none (x:=x) (b:=p.1) (call:=call)
 obtain ⟨ME,hME⟩:∃ e,musE p.1.stn call p.1.seats x.length = e:=⟨_,rfl⟩
 obtain ⟨MT,hMT⟩:∃ e,musT p.1.stn call p.1.seats x.length = e:=⟨_,rfl⟩
 rw [hME,hMT] at hmt hdone
 rw [hME] at hnone
 simp only [hME,hMT] at hmu
 unfold TLE snv at hmu
 unfold ReachP at hre
 unfold clv rmv at hre
 obtain ⟨y,hy⟩:∃ y,y = p.1:=⟨_,rfl⟩
 unfold bac
 refine walk [] pl110 (det0_ok _ _) Tryz.func110 rfl Tryz.ntmps110 res110 (by kernel_rfl) (H0:=[]) ⟨fun g hg=>by (cases hg),fun g hg=>by (cases hg),List.Pairwise.nil⟩ ?_
 simp (config := { maxSteps := 4000000 }) only [↓sxw,sxw,tf110,sxu,sxl,sxm,simprocAttr,dn]
 intro b0
 refine ld_olda (b:=bc) (o:=6) (by simp [add_block]) c6 id ?_
 simp (config := { maxSteps := 4000000 }) only [↓sxw,sxw,tf110,sxu,sxl,sxm,simprocAttr,dn]
 refine CallOb.pureH (fun w' hp'=>repeat_fn w' _ (-1) x.marks.length (row_hp (E:=3) (xs:=ints [-1]) (by simp [cat,i1]) hp') (by omega) (by omega)) ?_
 rintro r N ⟨b1,rfl,hN1⟩
 refine ⟨?_⟩
 simp (config := { maxSteps := 4000000 }) only [↓sxw,sxw,tf110,sxu,sxl,sxm,simprocAttr,dn,pl110_lk,pl110_2]
 refine ld_olda (b:=bc) (o:=7) (by simp [add_block]) c7 id ?_
 simp (config := { maxSteps := 4000000 }) only [↓sxw,sxw,tf110,sxu,sxl,sxm,simprocAttr,dn]
 refine CallOb.pureH (fun w' hp'=>hmu _ w' hp') ?_
 rintro r N2 ⟨z,rfl,hz⟩
 by_cases hE0:ME = 0
 case neg=>
  have z0:(ME = 0) = False:=eq_false hE0
  have hn:=hnone hE0
  refine ⟨?_⟩
  simp (config := { maxSteps := 4000000 }) only [↓sxw,sxw,tf110,sxu,sxl,sxm,simprocAttr,z0,dn]
  rw [hn]
  exact ⟨_,List.singleton_sublist.2 (by simp [hN1]),b1,_,rfl,rfl⟩
 have z0:(ME = 0) = True:=eq_true hE0
 obtain ⟨q1,q2,q3,q4⟩:=hmt hE0
 have hdone:=hdone hE0
 obtain ⟨beg,hbeg⟩:∃ beg:Nat,MT = beg:=⟨MT.toNat,by omega⟩
 subst hbeg
 rw [Int.toNat_natCast] at hdone
 obtain ⟨nt,hnt⟩:∃ nt,x.cht.tide.length = nt:=⟨_,rfl⟩
 have hnt100:nt ≤ 100:=by rw [← hnt]; exact hsm.cht.2.1
 rw [hnt] at hdone
 simp only [hnt] at hti
 refine ⟨?_⟩
 simp (config := { maxSteps := 4000000 }) only [↓sxw,sxw,tf110,sxu,sxl,sxm,simprocAttr,z0,dn]
 refine loop_constH [HO.row (.slice (some ⟨b1,0,none⟩) x.marks.length x.marks.length) 3 1 (ints (arvW x p.1 beg 0 0))] (by rw [arvW_zero]; exact HImp.pick (by simp [hN1])) [(11,16),(44,100)] (fun m:Nat=>[(11,I ((beg + m:Nat):Int))]) (fun m H1=>m ≤ nt - beg ∧ H1 = [HO.row (.slice (some ⟨b1,0,none⟩) x.marks.length x.marks.length) 3 1 (ints (arvW x p.1 beg m 0))]) (fun m=>nt - beg - m) 0 ?_ ⟨Nat.zero_le _,rfl⟩ ?_
 ·simp (config := { maxSteps := 4000000 }) only [↓sxw,sxw,tf110,sxu,sxl,sxm,simprocAttr]
  try simp
 rintro m H1 g1 ⟨hm,rfl⟩
 by_cases hmn:nt ≤ beg + m
 ·have e7:inB ((beg + m:Nat):Int) 0 ((nt:Int) - 1) = false:=by
   rw [← Bool.not_eq_true,inB_iff]
   omega
  have hti:=hti ((beg + m:Nat):Int)
  rw [e7] at hti
  have hme:m = nt - beg:=by omega
  subst hme
  rw [hdone]
  refine ⟨?_⟩
  simp (config := { maxSteps := 4000000 }) only [↓sxw,sxw,tf110,sxu,sxl,sxm,simprocAttr,dn]
  refine CallOb.pureH (fun w' hp'=>hti _ w' hp') ?_
  rintro r N3 rfl
  refine ⟨?_⟩
  simp (config := { maxSteps := 4000000 }) only [↓sxw,sxw,tf110,sxu,sxl,sxm,simprocAttr,dn]
  exact ⟨_,List.sublist_append_right _ _,b1,_,rfl,rfl⟩
 have e7:inB ((beg + m:Nat):Int) 0 ((nt:Int) - 1) = true:=(inB_iff _ _ _).2 (by omega)
 have e8:wr (((beg + m:Nat):Int) + 1) = ((beg + (m + 1):Nat):Int):=(wrap_id (by omega)).trans (by omega)
 have hti:=hti ((beg + m:Nat):Int)
 rw [e7] at hti
 have hre:=hre ((beg + m:Nat):Int)
 have hst2:staE x.cht p.1.cls p.1.rmp ((beg + m:Nat):Int) 0 = 0:=by
  unfold staE at hst ⊢
  have hz:=staE_zero (show staE x.cht p.1.cls p.1.rmp 0 0 = 0 from hst)
  rw [(okB_iff _).2 hz.1,if_pos rfl,if_pos hz.2.1,if_pos hz.2.2.1,hnt,e7]
  rfl
 simp only [hst2] at hre
 refine ⟨?_⟩
 simp (config := { maxSteps := 4000000 }) only [↓sxw,sxw,tf110,sxu,sxl,sxm,simprocAttr,dn]
 refine CallOb.pureH (fun w' hp'=>hti _ w' hp') ?_
 rintro r N3 rfl
 refine ⟨?_⟩
 simp (config := { maxSteps := 4000000 }) only [↓sxw,sxw,tf110,sxu,sxl,sxm,simprocAttr,dn,pl110_lk,pl110_8]
 refine ld_oldn (vs:=[I x.cht.wide,I x.cht.high,sD,sT,sS]) (b:=bc) (o:=0) (by simp [add_block]) (fun i v hi=>by rw [Nat.zero_add]; exact c0 i v (get_pre (m:=[vb,.slice aM x.marks.length cM,I x.length,I x.calls,.map (some bm)]) hi)) rfl id ?_
 simp (config := { maxSteps := 4000000 }) only [↓sxw,sxw,tf110,sxu,sxl,sxm,simprocAttr,dn]
 refine CallOb.pureH (fun w' hp'=>hre _ w' hp') ?_
 rintro r N4 (⟨h,_⟩ | ⟨_,xr,rfl,hgot⟩)
 ·exact absurd rfl h
 rw [Int.toNat_natCast] at hgot
 obtain ⟨RL,hRL⟩:∃ RL,reachL x.cht p.1.cls p.1.rmp (beg + m) = RL:=⟨_,rfl⟩
 have hRl:RL.length = x.cht.depth.length:=by rw [← hRL]; exact reachL_len _ _ _ _
 rw [hRL] at hgot
 have hgs:=hgot.shape
 obtain ⟨aR,cR,rfl⟩:=hgs
 have hrG:=fun H hm=>hgot.rdv (w0:=⟨w,fun _=>False⟩) (H:=H) i1_len hm
 refine ⟨?_⟩
 simp (config := { maxSteps := 4000000 }) only [↓sxw,sxw,tf110,sxu,sxl,sxm,simprocAttr,dn]
 refine ld_olda (b:=bc) (o:=6) (by simp [add_block]) c6 id ?_
 simp (config := { maxSteps := 4000000 }) only [↓sxw,sxw,tf110,sxu,sxl,sxm,simprocAttr,dn]
 refine loop_constH (HO.row (.slice (some ⟨b1,0,none⟩) x.marks.length x.marks.length) 3 1 (ints (arvW x p.1 beg m 0)) :: N4) ((HImp.perm (by rw [← List.append_assoc]; exact List.perm_append_comm)).trans (HImp.sub ((List.sublist_append_left N4 N3).cons_cons _))) [(14,16),(69,100)] (fun i:Nat=>[(69,I i)]) (fun i H1=>i ≤ x.marks.length ∧ H1 = HO.row (.slice (some ⟨b1,0,none⟩) x.marks.length x.marks.length) 3 1 (ints (arvW x p.1 beg m i)) :: N4) (fun i=>x.marks.length - i) 0 ?_ ⟨Nat.zero_le _,rfl⟩ ?_
 ·simp (config := { maxSteps := 4000000 }) only [↓sxw,sxw,tf110,sxu,sxl,sxm,simprocAttr]
  try simp
 rintro i H1 g2 ⟨hi,rfl⟩
 by_cases hin:i = x.marks.length
 ·have f7:((i:Int) < (x.marks.length:Int)) = False:=eq_false (by omega)
  subst hin
  refine ⟨?_⟩
  simp (config := { maxSteps := 4000000 }) only [↓sxw,sxw,tf110,sxu,sxl,sxm,simprocAttr,f7,e8,dn]
  exact ⟨m + 1,_,rfl,HImp.sub (List.singleton_sublist.2 List.mem_cons_self),⟨by omega,by rw [arvW_next]⟩,by omega⟩
 have f7:((i:Int) < (x.marks.length:Int)) = True:=eq_true (by omega)
 have f8:wr (i + 1) = ((i + 1:Nat):Int):=(wrap_id (by omega)).trans (by omega)
 have hil:i < x.marks.length:=by omega
 have hu:=List.getElem?_eq_getElem hil
 have hmk:=hok.mar _ (List.getElem_mem hil)
 have hgd:x.marks.getD i (0,0) = x.marks[i]:=by rw [List.getD_eq_getElem?_getD,hu]; rfl
 obtain ⟨mk,hmke⟩:∃ mk,x.marks[i] = mk:=⟨_,rfl⟩
 rw [hmke] at hu hmk hgd
 obtain ⟨mc,ml⟩:=mk
 simp only [] at hmk
 obtain ⟨cl,rfl⟩:∃ cl:Nat,mc = cl:=⟨mc.toNat,by omega⟩
 have hcl:RL[cl]? = some (RL.getD cl 0):=getD_at (by omega) 0
 have hstep:arvM x.cht p.1 cl beg (m + 1) = if 0 ≤ RL.getD cl 0 ∧ (arvM x.cht p.1 cl beg m = -1 ∨ RL.getD cl 0 < arvM x.cht p.1 cl beg m) then RL.getD cl 0 else arvM x.cht p.1 cl beg m:=by rw [arvM,hRL]
 have hset:=arvW_set (x:=x) (b:=p.1) (beg:=beg) (m:=m) hil
 have hget:=arvW_get (x:=x) (b:=p.1) (beg:=beg) (m:=m) (i:=i) hil
 rw [hgd,Int.toNat_natCast] at hset
 rw [hgd,Int.toNat_natCast,if_neg (Nat.lt_irrefl _)] at hget
 rw [hstep] at hset
 obtain ⟨nv,hnv⟩:∃ nv,RL.getD cl 0 = nv:=⟨_,rfl⟩
 obtain ⟨v0,hv0⟩:∃ v0,arvM x.cht p.1 cl beg m = v0:=⟨_,rfl⟩
 rw [hnv] at hcl
 rw [hnv,hv0] at hset
 rw [hv0] at hget
 have hWl:=arvW_len x p.1 beg m i
 obtain ⟨W0,hW0⟩:∃ W0,arvW x p.1 beg m i = W0:=⟨_,rfl⟩
 rw [hW0] at hset hget hWl
 rw [hW0]
 have eC:((cl:Int) < (RL.length:Int)) = True:=eq_true (by omega)
 have hrW:∀ G,Rdv ⟨w,fun _=>False⟩ (HO.row (.slice (some ⟨b1,0,none⟩) x.marks.length x.marks.length) 3 1 (ints W0) :: G) (.slice (some ⟨b1,0,none⟩) x.marks.length x.marks.length) 1 (cat i1 W0):=fun G=>row_rdv (E:=3) List.mem_cons_self ⟨_,_,_,rfl,by rw [cat_len i1_len,hWl],fun h=>by cases h⟩
 by_cases k1:nv ≥ 0
 case neg=>
  have z1:(nv ≥ 0) = False:=eq_false k1
  rw [if_neg (fun h=>k1 h.1),set_getE_self hget] at hset
  refine ⟨?_⟩
  simp (config := { maxSteps := 4000000 }) only [↓sxw,sxw,tf110,sxu,sxl,sxm,simprocAttr,f7,dn]
  first | refine amid (at_n (hrm _) spc_len (by omega) hu fun ad5=>?_) | refine at_n (hrm _) spc_len (by omega) hu fun ad5=>?_
  unfold spc
  simp (config := { maxSteps := 4000000 }) only [↓sxw,sxw,tf110,sxu,sxl,sxm,simprocAttr,dn]
  first | refine amid (at_1 (hrG _ (by simp +contextual)) i1_len hcl rfl fun ad6=>?_) | refine at_1 (hrG _ (by simp +contextual)) i1_len hcl rfl fun ad6=>?_
  simp (config := { maxSteps := 4000000 }) only [↓sxw,sxw,tf110,sxu,sxl,sxm,simprocAttr,z1,f8,dn]
  exact ⟨i + 1,_,rfl,HImp.refl _ _,⟨by omega,by rw [hset]⟩,by omega⟩
 have z1:(nv ≥ 0) = True:=eq_true k1
 by_cases k2:v0 = -1
 ·have z2:(v0 = -1) = True:=eq_true k2
  rw [if_pos ⟨k1,.inl k2⟩] at hset
  refine ⟨?_⟩
  simp (config := { maxSteps := 4000000 }) only [↓sxw,sxw,tf110,sxu,sxl,sxm,simprocAttr,f7,dn]
  first | refine amid (at_n (hrm _) spc_len (by omega) hu fun ad5=>?_) | refine at_n (hrm _) spc_len (by omega) hu fun ad5=>?_
  unfold spc
  simp (config := { maxSteps := 4000000 }) only [↓sxw,sxw,tf110,sxu,sxl,sxm,simprocAttr,dn]
  first | refine amid (at_1 (hrG _ (by simp +contextual)) i1_len hcl rfl fun ad6=>?_) | refine at_1 (hrG _ (by simp +contextual)) i1_len hcl rfl fun ad6=>?_
  simp (config := { maxSteps := 4000000 }) only [↓sxw,sxw,tf110,sxu,sxl,sxm,simprocAttr,z1,f7,dn]
  first | refine amid (at_1 (hrW _) i1_len hget rfl fun ad7=>?_) | refine at_1 (hrW _) i1_len hget rfl fun ad7=>?_
  simp (config := { maxSteps := 4000000 }) only [↓sxw,sxw,tf110,sxu,sxl,sxm,simprocAttr,z2,f7,dn]
  refine ⟨by omega,_,rfl,wr_at (A:=[]) (f:=i1) (u:=nv) (k:=i) rfl i1_len hWl (by omega) ?_⟩
  rw [hset]
  simp (config := { maxSteps := 4000000 }) only [↓sxw,sxw,tf110,sxu,sxl,sxm,simprocAttr,f8,dn]
  exact ⟨i + 1,_,rfl,HImp.refl _ _,⟨by omega,rfl⟩,by omega⟩
 have z2:(v0 = -1) = False:=eq_false k2
 by_cases k3:nv < v0
 ·have z3:(nv < v0) = True:=eq_true k3
  rw [if_pos ⟨k1,.inr k3⟩] at hset
  refine ⟨?_⟩
  simp (config := { maxSteps := 4000000 }) only [↓sxw,sxw,tf110,sxu,sxl,sxm,simprocAttr,f7,dn]
  first | refine amid (at_n (hrm _) spc_len (by omega) hu fun ad5=>?_) | refine at_n (hrm _) spc_len (by omega) hu fun ad5=>?_
  unfold spc
  simp (config := { maxSteps := 4000000 }) only [↓sxw,sxw,tf110,sxu,sxl,sxm,simprocAttr,dn]
  first | refine amid (at_1 (hrG _ (by simp +contextual)) i1_len hcl rfl fun ad6=>?_) | refine at_1 (hrG _ (by simp +contextual)) i1_len hcl rfl fun ad6=>?_
  simp (config := { maxSteps := 4000000 }) only [↓sxw,sxw,tf110,sxu,sxl,sxm,simprocAttr,z1,f7,dn]
  first | refine amid (at_1 (hrW _) i1_len hget rfl fun ad7=>?_) | refine at_1 (hrW _) i1_len hget rfl fun ad7=>?_
  simp (config := { maxSteps := 4000000 }) only [↓sxw,sxw,tf110,sxu,sxl,sxm,simprocAttr,z2,f7,dn]
  first | refine amid (at_1 (hrW _) i1_len hget rfl fun ad7=>?_) | refine at_1 (hrW _) i1_len hget rfl fun ad7=>?_
  simp (config := { maxSteps := 4000000 }) only [↓sxw,sxw,tf110,sxu,sxl,sxm,simprocAttr,z3,f7,dn]
  refine ⟨by omega,_,rfl,wr_at (A:=[]) (f:=i1) (u:=nv) (k:=i) rfl i1_len hWl (by omega) ?_⟩
  rw [hset]
  simp (config := { maxSteps := 4000000 }) only [↓sxw,sxw,tf110,sxu,sxl,sxm,simprocAttr,f8,dn]
  exact ⟨i + 1,_,rfl,HImp.refl _ _,⟨by omega,rfl⟩,by omega⟩
 ·have z3:(nv < v0) = False:=eq_false k3
  rw [if_neg (fun h=>h.2.elim k2 k3),set_getE_self hget] at hset
  refine ⟨?_⟩
  simp (config := { maxSteps := 4000000 }) only [↓sxw,sxw,tf110,sxu,sxl,sxm,simprocAttr,f7,dn]
  first | refine amid (at_n (hrm _) spc_len (by omega) hu fun ad5=>?_) | refine at_n (hrm _) spc_len (by omega) hu fun ad5=>?_
  unfold spc
  simp (config := { maxSteps := 4000000 }) only [↓sxw,sxw,tf110,sxu,sxl,sxm,simprocAttr,dn]
  first | refine amid (at_1 (hrG _ (by simp +contextual)) i1_len hcl rfl fun ad6=>?_) | refine at_1 (hrG _ (by simp +contextual)) i1_len hcl rfl fun ad6=>?_
  simp (config := { maxSteps := 4000000 }) only [↓sxw,sxw,tf110,sxu,sxl,sxm,simprocAttr,z1,f7,dn]
  first | refine amid (at_1 (hrW _) i1_len hget rfl fun ad7=>?_) | refine at_1 (hrW _) i1_len hget rfl fun ad7=>?_
  simp (config := { maxSteps := 4000000 }) only [↓sxw,sxw,tf110,sxu,sxl,sxm,simprocAttr,z2,f7,dn]
  first | refine amid (at_1 (hrW _) i1_len hget rfl fun ad7=>?_) | refine at_1 (hrW _) i1_len hget rfl fun ad7=>?_
  simp (config := { maxSteps := 4000000 }) only [↓sxw,sxw,tf110,sxu,sxl,sxm,simprocAttr,z3,f8,dn]
  exact ⟨i + 1,_,rfl,HImp.refl _ _,⟨by omega,by rw [hset]⟩,by omega⟩
end Go.Proofs.YtljpknnhimkkjaaGreatDoor

namespace Go.Proofs.YtljpknnhimkkjaaGreatDoor
open Go.RowKit Go.SX
set_option maxRecDepth 10000
set_option maxHeartbeats 0
set_option linter.unusedSimpArgs false
set_option linter.unusedVariables false
theorem Fn.sp {P:Program} {f:Nat} {args:List Value} {w:World} {X:Nat → Prop} {Post:Value → List HO → Prop} (h:SX.Fn P f args w X fun r N=>∃ N' M,N'.Perm M ∧ M.Sublist N ∧ Post r N'):SX.Fn P f args w X Post:=
 Calls.mono h fun _e _w' ⟨v,N,a,b,c,d,e',N',M,hq,hs,p⟩=>⟨v,N',a,b,fun g hg=>c g (hs.subset (hq.subset hg)),fun g hg=>d g (hs.subset (hq.subset hg)),(hq.pairwise_iff fun h=>Apart.symm h).2 (e'.sublist hs),p⟩
theorem fpsx_map {kd:IntKind} {bm:Nat} {K:List (Int × Value)}:fpsx [mapO kd bm K] = fun b=>b = bm:=by
 funext b
 apply propext
 constructor
 ·rintro ⟨h,hh,hb⟩
  rw [List.mem_singleton] at hh
  subst hh
  exact hb
 ·rintro rfl
  exact ⟨_,List.mem_singleton.2 rfl,rfl⟩
theorem fps_map {kd:IntKind} {bm:Nat} {K:List (Int × Value)} (b:Nat):fps [mapO kd bm K] b → fpsx [mapO kd bm K] b:=by
 rintro ⟨h,hh,hb⟩
 refine ⟨h,hh,?_⟩
 rw [List.mem_singleton] at hh
 subst hh
 exact hb
def LlX (w:World) (X:Nat → Prop) (v:Value) (cs:List (List Int)):Prop:=∃ a c ps,v = .slice a ps.length c ∧ ps.map Prod.fst = cs ∧ SlX w X v 1 (cat lmc ps) ∧ ∀ p ∈ ps,SlX w X (lmv p) 1 (ints p.1)
theorem LlX.keep {w w':World} {X:Nat → Prop} {v:Value} {cs:List (List Int)} (h:LlX w X v cs) (hk:Keep X w w'):LlX w' X v cs:=by
 obtain ⟨a,c,ps,h1,h2,h3,h4⟩:=h
 exact ⟨a,c,ps,h1,h2,h3.keep hk,fun p hp=>(h4 p hp).keep hk⟩
def KOk (w:World) (X:Nat → Prop) (x:Cst) (K:List (Int × Value)):Prop:=∀ e ∈ K,LlX w X e.2 (arvA x e.1)
theorem KOk.keep {w w':World} {X:Nat → Prop} {x:Cst} {K:List (Int × Value)} (h:KOk w X x K) (hk:Keep X w w'):KOk w' X x K:=fun e he=>(h e he).keep hk
def RwD (x:Cst) (D:List HO) (e:Int × Value):Prop:=∃ a c ps,e.2 = .slice a ps.length c ∧ ps.map Prod.fst = arvA x e.1 ∧ HO.row e.2 22 1 (cat lmc ps) ∈ D ∧ (∀ p ∈ ps,HO.row (lmv p) 3 1 (ints p.1) ∈ D) ∧ (a = none → ps = []) ∧ ∀ p ∈ ps,p.2.1 ≠ none
theorem RwD.mono {x:Cst} {D D':List HO} {e:Int × Value} (h:RwD x D e) (hD:∀ g ∈ D,g ∈ D'):RwD x D' e:=by
 obtain ⟨a,c,ps,h1,h2,h3,h4,h5⟩:=h
 exact ⟨a,c,ps,h1,h2,hD _ h3,fun p hp=>hD _ (h4 p hp),h5⟩
theorem RwD.ll {x:Cst} {A D:List HO} {e:Int × Value} {w0:Base} {w':World} (h:RwD x D e) (hp:Hp w0 (A ++ D) w'):LlX w' (fpsx A) e.2 (arvA x e.1):=by
 obtain ⟨a,c,ps,h1,h2,h3,h4,_⟩:=h
 exact ⟨a,c,ps,h1,h2,slx_row h3 hp,fun p hpm=>slx_row (h4 p hpm) hp⟩
theorem KOk.of {w0 w':World} {bm:Nat} {x:Cst} {K K':List (Int × Value)} {D:List HO} (hK:KOk w0 (fun b=>b = bm) x K) (h:∀ e ∈ K',e ∈ K ∨ RwD x D e) (hp:Hp ⟨w0,fun b=>b = bm⟩ ([mapO .i64 bm K'] ++ D) w'):KOk w' (fun b=>b = bm) x K':=fun e he=>by
 rcases h e he with h1 | h1
 ·exact (hK e h1).keep hp.ext
 ·have:=h1.ll hp
  rw [fpsx_map] at this
  exact this
def TimP (x:Cst) (bm:Nat) (K:List (Int × Value)) (R:Value → List (Int × Value) → Prop) (r:Value) (N:List HO):Prop:=∃ K' D,N = mapO .i64 bm K' :: D ∧ (∀ e ∈ K',e ∈ K ∨ RwD x D e) ∧ R r K'
theorem timT:Tryz.prog.underlying 115 = some (.map 3 34):=by kernel_rfl
theorem intT8:Tryz.prog.underlying 3 = some (.int .i64):=by kernel_rfl
theorem zeroT8 (w:World):(zeroValue 34).run Tryz.prog w = .ok (.slice none 0 0) w:=by kernel_rfl
theorem arrivals_fn (w:World) (bc bm:Nat) (sD sT sS vb vm:Value) (x:Cst) (pb:List Bm) (hc:CoW w (fun b=>b = bm) bc bm sD sT sS vb vm x pb) (hsm:x.small) (hok:x.ok) (K:List (Int × Value)) (hm:HO.ok w (mapO .i64 bm K)) (hK:KOk w (fun b=>b = bm) x K) (call:Int):
  SX.Fn Tryz.prog 59 [.pointer (some ⟨bc,0,none⟩),I call] w (fun b=>b = bm) (TimP x bm K fun r K'=>(call,r) ∈ K'):=by
 refine Fn.sp ?_
 have dn:∀ (g:Nat) (xs:List Value),det0 g xs = none:=fun _ _=>rfl
 have hri:=fun (p:Bm) (hp:p ∈ pb) (H:List HO) w' (hp':Hp ⟨w,fun b=>b = bm⟩ H w')=>arrive_fn w' bc bm sD sT sS vb vm x pb ((hc.keep hp'.ext).mono fun b hb=>hb.elim) hsm hok p hp call
 have hone:=fun (p:Bm) (hp:p ∈ pb)=>bac_one ((hc.all w (Keep.refl _ w)).2.2 p hp)
 have hpl:pb.length = x.bases.length:=by rw [← hc.fst,List.length_map]
 have hnb:=hok.nb
 have c5:=hc.cel 5 _ rfl
 have c9:=hc.cel 9 _ rfl
 have nc:¬ (bc = bm):=hc.nc
 have hrB:=hc.bas.rdv
 obtain ⟨aB,nB,cB,rfl⟩:=hc.bas.1.shape
 have hnB:=hc.bas.1.le bac_len (by omega)
 subst hnB
 have hmap:∀ i,i < pb.length → ∀ p,pb[i]? = some p → (x.bases.take i).map (fun b=>arvL x b call) ++ [arvL x p.1 call] = (x.bases.take (i + 1)).map fun b=>arvL x b call:=fun i hi p hp=>by
  have:x.bases[i]? = some p.1:=by rw [← hc.fst,List.getElem?_map,hp]; rfl
  rw [List.take_succ,this,List.map_append]
  rfl
 unfold bac at hri
 unfold TimP
 refine walk [] [] (det0_ok _ _) Tryz.func59 rfl Tryz.ntmps59 res59 (by kernel_rfl) (H0:=[mapO .i64 bm K]) ⟨fun g hg=>by rw [List.mem_singleton] at hg; subst hg; exact hm,fun g hg b hb=>by rw [List.mem_singleton] at hg; subst hg; exact hb,List.pairwise_singleton _ _⟩ ?_
 simp (config := { maxSteps := 4000000 }) only [↓sxw,sxw,tf59,sxu,sxl,sxm,simprocAttr,dn]
 refine ld_olda (b:=bc) (o:=9) (by simp [add_block]) c9 nc ?_
 simp (config := { maxSteps := 4000000 }) only [↓sxw,sxw,tf59,sxu,sxl,sxm,simprocAttr,dn]
 refine lk_num (z:=.slice none 0 0) timT intT8 zeroT8 List.mem_cons_self (fun hn=>?_) (fun q hq hqc=>?_)
 case refine_2=>
  obtain ⟨qc,qv⟩:=q
  simp only [] at hqc
  subst hqc
  simp (config := { maxSteps := 4000000 }) only [↓sxw,sxw,tf59,sxu,sxl,sxm,simprocAttr,dn]
  exact ⟨_,_,List.Perm.refl _,List.Sublist.refl _,K,[],rfl,fun e he=>.inl he,hq⟩
 simp (config := { maxSteps := 4000000 }) only [↓sxw,sxw,tf59,sxu,sxl,sxm,simprocAttr,dn]
 refine ld_olda (b:=bc) (o:=5) (by simp [add_block]) c5 nc ?_
 simp (config := { maxSteps := 4000000 }) only [↓sxw,sxw,tf59,sxu,sxl,sxm,simprocAttr,dn]
 refine loop_constH (HO.row (.slice none 0 0) 22 1 (cat lmc ([]:List Lm)) :: ([] ++ [mapO .i64 bm K])) (HImp.nilRow _ _ _ _) [(5,5),(8,8),(26,37)] (fun q:Nat × Option Addr × Nat × List Lm=>[(5,.slice q.2.1 q.1 q.2.2.1),(26,I q.1)])
  (fun q H1=>q.1 ≤ pb.length ∧ q.2.2.2.length = q.1 ∧ q.2.2.2.map Prod.fst = ((x.bases.take q.1).map fun b=>arvL x b call) ∧ (q.2.1 = none → q.1 = 0) ∧ (∀ p ∈ q.2.2.2,p.2.1 ≠ none) ∧ ∃ F,H1 = HO.row (.slice q.2.1 q.1 q.2.2.1) 22 1 (cat lmc q.2.2.2) :: (F ++ [mapO .i64 bm K]) ∧ ∀ p ∈ q.2.2.2,HO.row (lmv p) 3 1 (ints p.1) ∈ F) (fun q=>pb.length - q.1) (0,none,0,[]) ?_ ⟨Nat.zero_le _,rfl,rfl,fun _=>rfl,fun p hp=>(by cases hp),[],rfl,fun p hp=>(by cases hp)⟩ ?_
 ·simp (config := { maxSteps := 4000000 }) only [↓sxw,sxw,tf59,sxu,sxl,sxm,simprocAttr]
  try simp
 rintro ⟨i,ao,co,ps⟩ H1 g1 hinv
 simp only [] at hinv
 obtain ⟨hi,hpsl,hpsm,hao,hpn,F,rfl,hF⟩:=hinv
 by_cases hin:i = pb.length
 ·have e7:((i:Int) < (pb.length:Int)) = False:=eq_false (by omega)
  subst hin
  rw [hpl,List.take_length] at hpsm
  refine ⟨?_⟩
  simp (config := { maxSteps := 4000000 }) only [↓sxw,sxw,tf59,sxu,sxl,sxm,simprocAttr,e7,dn]
  refine ld_olda (b:=bc) (o:=9) (by simp [add_block]) c9 nc ?_
  simp (config := { maxSteps := 4000000 }) only [↓sxw,sxw,tf59,sxu,sxl,sxm,simprocAttr,dn]
  refine ins_num (A:=HO.row (.slice ao pb.length co) 22 1 (cat lmc ps) :: F) timT intT8 hn rfl ?_
  simp (config := { maxSteps := 4000000 }) only [↓sxw,sxw,tf59,sxu,sxl,sxm,simprocAttr,dn]
  refine ⟨_,_,(List.perm_append_comm (l₁:=[mapO .i64 bm (K ++ [(call,.slice ao pb.length co)])]) (l₂:=HO.row (.slice ao pb.length co) 22 1 (cat lmc ps) :: F)),List.Sublist.refl _,K ++ [(call,.slice ao pb.length co)],_,rfl,fun e he=>?_,by simp⟩
  rcases List.mem_append.1 he with he | he
  ·exact .inl he
  ·rw [List.mem_singleton.1 he]
   exact .inr ⟨ao,co,ps,by rw [hpsl],hpsm,List.mem_cons_self,fun p hp=>List.mem_cons_of_mem _ (hF p hp),fun ha=>(List.eq_nil_of_length_eq_zero (by have:=hao ha; omega)),hpn⟩
 have e7:((i:Int) < (pb.length:Int)) = True:=eq_true (by omega)
 have e8:wr (i + 1) = ((i + 1:Nat):Int):=(wrap_id (by omega)).trans (by omega)
 have hil:i < pb.length:=by omega
 have hu:=List.getElem?_eq_getElem hil
 have hm2:=List.getElem_mem hil
 have hmp:=hmap i hil
 generalize pb[i] = p at hu hm2
 obtain ⟨ho1,ho2⟩:=hone p hm2
 have hrp:=hri p hm2
 have hmp:=hmp p hu
 have hArl:(arvL x p.1 call).length = x.marks.length:=by unfold arvL; rw [List.length_map]
 refine ⟨?_⟩
 simp (config := { maxSteps := 4000000 }) only [↓sxw,sxw,tf59,sxu,sxl,sxm,simprocAttr,e7,dn]
 refine amid (at_n (hrB _) bac_len (by omega) hu fun ad=>?_)
 unfold bac
 simp (config := { maxSteps := 4000000 }) only [↓sxw,sxw,tf59,sxu,sxl,sxm,simprocAttr,ho1,ho2,dn]
 refine CallOb.pureH (fun w' hp'=>hrp _ w' hp') ?_
 rintro r N ⟨b,c,rfl,rfl⟩
 refine ⟨?_⟩
 simp (config := { maxSteps := 4000000 }) only [↓sxw,sxw,tf59,sxu,sxl,sxm,simprocAttr,dn]
 intro b2
 obtain ⟨u,hue⟩:∃ u:Lm,u = (arvL x p.1 call,some ⟨b,0,none⟩,c):=⟨_,rfl⟩
 have hlu:lmv u = .slice (some ⟨b,0,none⟩) x.marks.length c:=by rw [hue]; unfold lmv; simp only []; rw [hArl]
 have hlc:lmc u = [.slice (some ⟨b,0,none⟩) x.marks.length c]:=by unfold lmc; rw [hlu]
 have hu1:u.1 = arvL x p.1 call:=by rw [hue]
 rw [← hlc]
 refine app_one (f:=lmc) (l:=ps) u (HImp.swap _ _ _ _) lmc_len lmc_one (by omega) fun ad4 c4=>?_
 rw [hpsl]
 simp (config := { maxSteps := 4000000 }) only [↓sxw,sxw,tf59,sxu,sxl,sxm,simprocAttr,e8,dn]
 refine ⟨(i + 1,some ad4,c4,ps ++ [u]),_,by first | exact ⟨rfl,rfl⟩ | (simp; done),HImp.refl _ _,⟨by simp only []; omega,by simp only [List.length_append,List.length_singleton]; omega,?_,fun h=>(by cases h),fun p' hp'=>?_,HO.row (.slice (some ⟨b,0,none⟩) x.marks.length c) 3 1 (ints (arvL x p.1 call)) :: F,by first | rfl | simp,fun p' hp'=>?_⟩,by simp only []; omega⟩
 ·simp only []
  rw [List.map_append,hpsm,List.map_singleton,hu1]
  exact hmp
 ·rcases List.mem_append.1 hp' with hp' | hp'
  ·exact hpn p' hp'
  ·rw [List.mem_singleton.1 hp',hue]
   exact fun h=>by cases h
 ·rcases List.mem_append.1 hp' with hp' | hp'
  ·exact List.mem_cons_of_mem _ (hF p' hp')
  ·rw [List.mem_singleton.1 hp',hlu,hu1]
   exact List.mem_cons_self
end Go.Proofs.YtljpknnhimkkjaaGreatDoor

namespace Go.Proofs.YtljpknnhimkkjaaGreatDoor
open Go.RowKit Go.SX
set_option maxRecDepth 10000
set_option maxHeartbeats 0
set_option linter.unusedSimpArgs false
set_option linter.unusedVariables false
theorem bit8:∀ s:Fin 32,∀ i:Fin 5,(bitS .and .u64 (((s.val:Nat):Int).fdiv (2 ^ (min i.val IntKind.u64.bits))) 1 == 1) = s.val.testBit i.val:=by decide +kernel
theorem or8:∀ s:Fin 32,∀ i:Fin 5,bitS .or .u64 ((s.val:Nat):Int) (IntKind.u64.wrap (1 * 2 ^ (min i.val IntKind.u64.bits))) = ((s.val ||| 2 ^ i.val:Nat):Int):=by decide +kernel
theorem or8_lt:∀ s:Fin 32,∀ i:Fin 5,s.val ||| 2 ^ i.val < 32:=by decide +kernel
theorem fhas_fn (w:World) (s i:Nat) (hs:s < 32) (hi:i < 5):SX.Fn Tryz.prog 133 [.int .u64 s,I i] w (fun _=>False) fun r N=>r = .bool (s.testBit i):=by
 have h:=bit8 ⟨s,hs⟩ ⟨i,hi⟩
 simp only [] at h
 rw [← h]
 refine walk [] [] (det0_ok _ _) Tryz.func133 rfl Tryz.ntmps133 res133 (by kernel_rfl) no_facts ?_
 simp (config := { maxSteps := 4000000 }) only [↓sxw,sxw,tf133,sxu,sxl,sxm,simprocAttr]
 exact Int.natCast_nonneg _
theorem fwith_fn (w:World) (s i:Nat) (hs:s < 32) (hi:i < 5):SX.Fn Tryz.prog 134 [.int .u64 s,I i] w (fun _=>False) fun r N=>r = .int .u64 ((s ||| 2 ^ i:Nat):Int):=by
 have h:=or8 ⟨s,hs⟩ ⟨i,hi⟩
 simp only [] at h
 rw [← h]
 refine walk [] [] (det0_ok _ _) Tryz.func134 rfl Tryz.ntmps134 res134 (by kernel_rfl) no_facts ?_
 simp (config := { maxSteps := 4000000 }) only [↓sxw,sxw,tf134,sxu,sxl,sxm,simprocAttr]
 exact Int.natCast_nonneg _
def setI (l:List Int):Nat:=l.foldl (fun f n=>if 0 ≤ n then f ||| 2 ^ n.toNat else f) 0
theorem setI_snoc (l:List Int) (n:Int):setI (l ++ [n]) = if 0 ≤ n then setI l ||| 2 ^ n.toNat else setI l:=by
 unfold setI
 rw [List.foldl_append]
 rfl
theorem setI_lt:∀ (l:List Int),(∀ n ∈ l,-1 ≤ n ∧ n < 5) → ∀ k,setI (l.take k) < 32:=fun l hl k=>by
 induction k with
 | zero=>exact (by decide:(0:Nat) < 32)
 | succ k ih=>
  rw [List.take_succ]
  cases hk:l[k]? with
  | none=>simpa [hk] using ih
  | some n=>
   rw [show (some n).toList = [n] from rfl,setI_snoc]
   have:=hl n (List.mem_of_getElem? hk)
   split
   ·exact or8_lt ⟨_,ih⟩ ⟨n.toNat,by omega⟩
   ·exact ih
theorem fset_fn (w:World) (v:Value) (l:List Int) (hv:Sl w v 1 (ints l)) (hb:l.length ≤ 1000) (hl:∀ n ∈ l,-1 ≤ n ∧ n < 5):SX.Fn Tryz.prog 79 [v] w (fun _=>False) fun r N=>r = .int .u64 (setI l):=by
 obtain ⟨a,n,c,rfl⟩:=hv.shape
 have hn:=hv.le i1_len (by omega)
 subst hn
 have hr:=hv.rd0
 have dn:∀ (g:Nat) (xs:List Value),det0 g xs = none:=fun _ _=>rfl
 refine walk [] [] (det0_ok _ _) Tryz.func79 rfl Tryz.ntmps79 res79 (by kernel_rfl) no_facts ?_
 simp (config := { maxSteps := 4000000 }) only [↓sxw,sxw,tf79,sxu,sxl,sxm,simprocAttr,dn]
 refine loop_constH [] (HImp.nil _ _) [(3,3),(5,5),(8,17)] (fun i:Nat=>[(3,.int .u64 (setI (l.take i))),(8,I i)]) (fun i H1=>i ≤ l.length ∧ H1 = []) (fun i=>l.length - i) 0 ?_ ⟨Nat.zero_le _,rfl⟩ ?_
 ·simp (config := { maxSteps := 4000000 }) only [↓sxw,sxw,tf79,sxu,sxl,sxm,simprocAttr]
  first | exact ⟨rfl,rfl⟩ | (simp; done) | rfl
 rintro i H1 g1 ⟨hi,rfl⟩
 by_cases hin:i = l.length
 ·have e7:((i:Int) < (l.length:Int)) = False:=eq_false (by omega)
  rw [hin,List.take_length]
  rw [hin] at e7
  refine ⟨?_⟩
  simp (config := { maxSteps := 4000000 }) only [↓sxw,sxw,tf79,sxu,sxl,sxm,simprocAttr,e7,dn]
  try rfl
 have e7:((i:Int) < (l.length:Int)) = True:=eq_true (by omega)
 have e8:wr (i + 1) = ((i + 1:Nat):Int):=(wrap_id (by omega)).trans (by omega)
 obtain ⟨n,hx⟩:∃ n,l[i]? = some n:=⟨_,List.getElem?_eq_getElem (by omega)⟩
 have hnb:=hl n (List.mem_of_getElem? hx)
 have hlt:=setI_lt l hl i
 have hst:setI (l.take (i + 1)) = if 0 ≤ n then setI (l.take i) ||| 2 ^ n.toNat else setI (l.take i):=by rw [List.take_succ,hx]; exact setI_snoc _ _
 by_cases h0:0 ≤ n
 ·have z1:(n ≥ 0) = True:=eq_true h0
  obtain ⟨m,rfl⟩:∃ m:Nat,n = m:=⟨n.toNat,by omega⟩
  rw [if_pos h0,Int.toNat_natCast] at hst
  refine ⟨?_⟩
  simp (config := { maxSteps := 4000000 }) only [↓sxw,sxw,tf79,sxu,sxl,sxm,simprocAttr,e7,dn]
  refine amid (at_1 (hr _) i1_len hx rfl fun ad=>?_)
  simp (config := { maxSteps := 4000000 }) only [↓sxw,sxw,tf79,sxu,sxl,sxm,simprocAttr,z1,dn]
  refine CallOb.pureH (fun w' hp=>fwith_fn w' (setI (l.take i)) m hlt (by omega)) ?_
  rintro r N rfl
  rw [← hst]
  refine ⟨?_⟩
  simp (config := { maxSteps := 4000000 }) only [↓sxw,sxw,tf79,sxu,sxl,sxm,simprocAttr,e8,dn]
  exact ⟨i + 1,_,by first | exact ⟨rfl,rfl⟩ | rfl,HImp.nil _ _,⟨by omega,rfl⟩,by omega⟩
 ·have z1:(n ≥ 0) = False:=eq_false h0
  rw [if_neg h0] at hst
  refine ⟨?_⟩
  simp (config := { maxSteps := 4000000 }) only [↓sxw,sxw,tf79,sxu,sxl,sxm,simprocAttr,e7,dn]
  refine amid (at_1 (hr _) i1_len hx rfl fun ad=>?_)
  simp (config := { maxSteps := 4000000 }) only [↓sxw,sxw,tf79,sxu,sxl,sxm,simprocAttr,z1,e8,dn]
  exact ⟨i + 1,_,by first | exact ⟨by rw [hst],rfl⟩ | (rw [hst]; done),HImp.nil _ _,⟨by omega,rfl⟩,by omega⟩
theorem rd_known {w:World} {X:Nat → Prop} {x:Cst} {K:List (Int × Value)} {D:List HO} {e:Int × Value} (hK:KOk w X x K) (h:e ∈ K ∨ RwD x D e):∃ a c ps,e.2 = .slice a ps.length c ∧ ps.map Prod.fst = arvA x e.1 ∧ ∀ G,(∀ g ∈ D,g ∈ G) → Rdv ⟨w,X⟩ G e.2 1 (cat lmc ps) ∧ ∀ p ∈ ps,Rdv ⟨w,X⟩ G (lmv p) 1 (ints p.1):=by
 rcases h with h | ⟨a,c,ps,h1,h2,h3,h4,h5,h6⟩
 ·obtain ⟨a,c,ps,h1,h2,h3,h4⟩:=hK e h
  exact ⟨a,c,ps,h1,h2,fun G _=>⟨h3.rdv G,fun p hp=>(h4 p hp).rdv G⟩⟩
 ·refine ⟨a,c,ps,h1,h2,fun G hG=>⟨row_rdv (E:=22) (hG _ h3) ⟨a,ps.length,c,h1,by rw [cat_len lmc_len],fun ha=>by rw [h5 ha]; rfl⟩,fun p hp=>row_rdv (E:=3) (hG _ (h4 p hp)) ⟨p.2.1,p.1.length,p.2.2,rfl,by unfold ints; rw [cat_len i1_len],fun ha=>absurd ha (h6 p hp)⟩⟩⟩
theorem reached_fn (w:World) (bc bm:Nat) (sD sT sS vb vm:Value) (x:Cst) (pb:List Bm) (hc:CoW w (fun b=>b = bm) bc bm sD sT sS vb vm x pb) (hsm:x.small) (hok:x.ok) (K:List (Int × Value)) (hm:HO.ok w (mapO .i64 bm K)) (hK:KOk w (fun b=>b = bm) x K) (k:Nat) (hk:k < x.marks.length) (call:Int) (hcl:0 ≤ call ∧ call ≤ 100) (away:Nat) (hay:away < 32):
  SX.Fn Tryz.prog 78 [.pointer (some ⟨bc,0,none⟩),I k,I call,.int .u64 away] w (fun b=>b = bm) (TimP x bm K fun r _=>r = .bool (rchB x k call away)):=by
 refine Fn.sub ?_
 have dn:∀ (g:Nat) (xs:List Value),det0 g xs = none:=fun _ _=>rfl
 have har:=fun w' (hp':Hp ⟨w,fun b=>b = bm⟩ ([mapO .i64 bm K] ++ []) w')=>arrivals_fn w' bc bm sD sT sS vb vm x pb (hc.keep hp'.ext) hsm hok K (hp'.ok _ (by simp)) (hK.keep hp'.ext) call
 have hnb:=hok.nb
 have nc:¬ (bc = bm):=hc.nc
 have c6:=hc.cel 6 _ rfl
 have hrM:=hc.mar.rdv
 obtain ⟨aM,nM,cM,rfl⟩:=hc.mar.1.shape
 have hnM:=hc.mar.1.le spc_len (by omega)
 subst hnM
 obtain ⟨mk,hmk⟩:∃ mk,x.marks[k]? = some mk:=⟨_,List.getElem?_eq_getElem hk⟩
 have hmb:=hok.mar mk (List.mem_of_getElem? hmk)
 have hmd:x.marks.getD k (0,0) = mk:=by rw [List.getD_eq_getElem?_getD,hmk]; rfl
 obtain ⟨mc,ml⟩:=mk
 simp only [] at hmb
 have eM:((k:Int) < (x.marks.length:Int)) = True:=eq_true (by omega)
 have eL:wr (call + ml) = call + ml:=wrap_id (by omega)
 have hR:rchB x k call away = (List.range x.bases.length).any fun i=>!away.testBit i && hitB x call k i:=rfl
 obtain ⟨RR,hRR⟩:∃ b,rchB x k call away = b:=⟨_,rfl⟩
 rw [hRR] at hR
 unfold TimP
 rw [hRR]
 refine walk [] [] (det0_ok _ _) Tryz.func78 rfl Tryz.ntmps78 res78 (by kernel_rfl) (H0:=[mapO .i64 bm K]) ⟨fun g hg=>by rw [List.mem_singleton] at hg; subst hg; exact hm,fun g hg b hb=>by rw [List.mem_singleton] at hg; subst hg; exact hb,List.pairwise_singleton _ _⟩ ?_
 simp (config := { maxSteps := 4000000 }) only [↓sxw,sxw,tf78,sxu,sxl,sxm,simprocAttr,dn]
 refine CallOb.mutH (A:=[mapO .i64 bm K]) (B:=[]) (HImp.refl _ _) fps_map (fun w' hp=>by rw [fpsx_map]; exact har w' hp) ?_ (Post:=TimP x bm K fun r K'=>(call,r) ∈ K')
 rintro r N ⟨K1,D1,rfl,hK1,hr1⟩
 have hrk:=rd_known (e:=(call,r)) hK (hK1 _ hr1)
 obtain ⟨a1,c1,ps,hre,hpm,hrd⟩:=hrk
 simp only [] at hre hpm hrd
 subst hre
 have hpl:ps.length = x.bases.length:=by rw [← List.length_map (f:=Prod.fst),hpm]; unfold arvA; rw [List.length_map]
 refine ⟨?_⟩
 simp (config := { maxSteps := 4000000 }) only [↓sxw,sxw,tf78,sxu,sxl,sxm,simprocAttr,dn]
 refine loop_constH (mapO .i64 bm K1 :: D1) (by first | exact HImp.refl _ _ | (simp only [List.append_nil]; exact HImp.refl _ _)) [(8,11),(16,48)] (fun i:Nat=>[(16,I i)]) (fun i H1=>i ≤ ps.length ∧ H1 = mapO .i64 bm K1 :: D1 ∧ RR = ((List.range x.bases.length).drop i).any fun i=>!away.testBit i && hitB x call k i) (fun i=>ps.length - i) 0 ?_ ⟨Nat.zero_le _,rfl,hR⟩ ?_
 ·simp (config := { maxSteps := 4000000 }) only [↓sxw,sxw,tf78,sxu,sxl,sxm,simprocAttr]
  try simp
 rintro i H1 g1 ⟨hi,rfl,hinv⟩
 obtain ⟨hrR,hrr⟩:=hrd (mapO .i64 bm K1 :: D1) (fun g hg=>List.mem_cons_of_mem _ hg)
 by_cases hin:i = ps.length
 ·have e7:((i:Int) < (ps.length:Int)) = False:=eq_false (by omega)
  rw [List.drop_of_length_le (by rw [List.length_range]; omega)] at hinv
  rw [hinv]
  refine ⟨?_⟩
  simp (config := { maxSteps := 4000000 }) only [↓sxw,sxw,tf78,sxu,sxl,sxm,simprocAttr,e7,dn]
  exact ⟨_,List.Sublist.refl _,K1,D1,rfl,hK1,rfl⟩
 have e7:((i:Int) < (ps.length:Int)) = True:=eq_true (by omega)
 have e8:wr (i + 1) = ((i + 1:Nat):Int):=(wrap_id (by omega)).trans (by omega)
 obtain ⟨p,hp⟩:∃ p,ps[i]? = some p:=⟨_,List.getElem?_eq_getElem (by omega)⟩
 have hpa:(arvA x call)[i]? = some p.1:=by rw [← hpm,List.getElem?_map,hp]; rfl
 have hrp:=hrr p (List.mem_of_getElem? hp)
 have hpL:p.1.length = x.marks.length:=by
  unfold arvA at hpa
  rw [List.getElem?_map] at hpa
  cases hb:x.bases[i]? with
  | none=>rw [hb] at hpa; cases hpa
  | some b=>
   rw [hb] at hpa
   simp only [Option.map_some,Option.some.injEq] at hpa
   rw [← hpa]
   unfold arvL
   rw [List.length_map]
 obtain ⟨n,hn⟩:∃ n,p.1[k]? = some n:=⟨_,List.getElem?_eq_getElem (by omega)⟩
 have hhit:hitB x call k i = (decide (n ≠ -1) && decide (n ≤ call + ml)):=by
  have hA:(arvA x call).getD i [] = p.1:=by rw [List.getD_eq_getElem?_getD,hpa]; rfl
  have hN:p.1.getD k 0 = n:=by rw [List.getD_eq_getElem?_getD,hn]; rfl
  unfold hitB
  rw [hmd,hA,hN]
 have hdr:(List.range x.bases.length).drop i = i :: (List.range x.bases.length).drop (i + 1):=by
  rw [List.drop_eq_getElem_cons (by rw [List.length_range]; omega),List.getElem_range]
 rw [hdr,List.any_cons,hhit] at hinv
 have hha:=fun w'=>fhas_fn w' away i hay (by omega)
 obtain ⟨B,hB⟩:∃ B,away.testBit i = B:=⟨_,rfl⟩
 rw [hB] at hinv
 simp only [hB] at hha
 have eK:((k:Int) < (p.1.length:Int)) = True:=eq_true (by omega)
 refine ⟨?_⟩
 simp (config := { maxSteps := 4000000 }) only [↓sxw,sxw,tf78,sxu,sxl,sxm,simprocAttr,e7,dn]
 first | refine amid (at_1 hrR lmc_len hp rfl fun ad1=>?_) | refine at_1 hrR lmc_len hp rfl fun ad1=>?_
 unfold lmv at hrp ⊢
 simp (config := { maxSteps := 4000000 }) only [↓sxw,sxw,tf78,sxu,sxl,sxm,simprocAttr,eK,dn]
 first | refine amid (at_1 hrp i1_len hn rfl fun ad2=>?_) | refine at_1 hrp i1_len hn rfl fun ad2=>?_
 simp (config := { maxSteps := 4000000 }) only [↓sxw,sxw,tf78,sxu,sxl,sxm,simprocAttr,dn]
 refine CallOb.pureH (fun w' hp=>hha w') ?_
 rintro r N rfl
 have nxt:∀ {b:Bool},b = false → RR = (b || ((List.range x.bases.length).drop (i + 1)).any fun i=>!away.testBit i && hitB x call k i) → RR = ((List.range x.bases.length).drop (i + 1)).any fun i=>!away.testBit i && hitB x call k i:=fun h1 h2=>by rw [h2,h1,Bool.false_or]
 cases B with
 | true=>
  have hinv:=nxt rfl hinv
  refine ⟨?_⟩
  simp (config := { maxSteps := 4000000 }) only [↓sxw,sxw,tf78,sxu,sxl,sxm,simprocAttr,e8,dn]
  exact ⟨i + 1,_,rfl,HImp.app _ _ _,⟨by omega,rfl,hinv⟩,by omega⟩
 | false=>
 by_cases h1:n = -1
 ·have z1:(n = -1) = True:=eq_true h1
  have hinv:=nxt (by simp [h1]) hinv
  refine ⟨?_⟩
  simp (config := { maxSteps := 4000000 }) only [↓sxw,sxw,tf78,sxu,sxl,sxm,simprocAttr,z1,e8,dn]
  exact ⟨i + 1,_,rfl,HImp.app _ _ _,⟨by omega,rfl,hinv⟩,by omega⟩
 have z1:(n = -1) = False:=eq_false h1
 by_cases h2:n ≤ call + ml
 ·have z2:(n ≤ call + ml) = True:=eq_true h2
  have hyes:RR = true:=by rw [hinv]; simp [h1,h2]
  rw [hyes]
  refine ⟨?_⟩
  simp (config := { maxSteps := 4000000 }) only [↓sxw,sxw,tf78,sxu,sxl,sxm,simprocAttr,z1,dn]
  refine ld_olda (b:=bc) (o:=6) (by simp [add_block]) c6 nc ?_
  simp (config := { maxSteps := 4000000 }) only [↓sxw,sxw,tf78,sxu,sxl,sxm,simprocAttr,eM,dn]
  first | refine amid (at_f (hrM _) spc_len hmk (o:=1) (x:=I ml) rfl fun ad3=>?_) | refine at_f (hrM _) spc_len hmk (o:=1) (x:=I ml) rfl fun ad3=>?_
  simp (config := { maxSteps := 4000000 }) only [↓sxw,sxw,tf78,sxu,sxl,sxm,simprocAttr,eL,z2,dn]
  first | exact ⟨_,List.sublist_append_right _ _,K1,D1,rfl,hK1,rfl⟩ | exact ⟨_,List.sublist_append_right _ _,K1,D1,rfl,hK1⟩
 ·have z2:(n ≤ call + ml) = False:=eq_false h2
  have hinv:=nxt (by simp [h1,h2]) hinv
  refine ⟨?_⟩
  simp (config := { maxSteps := 4000000 }) only [↓sxw,sxw,tf78,sxu,sxl,sxm,simprocAttr,z1,dn]
  refine ld_olda (b:=bc) (o:=6) (by simp [add_block]) c6 nc ?_
  simp (config := { maxSteps := 4000000 }) only [↓sxw,sxw,tf78,sxu,sxl,sxm,simprocAttr,eM,dn]
  first | refine amid (at_f (hrM _) spc_len hmk (o:=1) (x:=I ml) rfl fun ad3=>?_) | refine at_f (hrM _) spc_len hmk (o:=1) (x:=I ml) rfl fun ad3=>?_
  simp (config := { maxSteps := 4000000 }) only [↓sxw,sxw,tf78,sxu,sxl,sxm,simprocAttr,eL,z2,e8,dn]
  exact ⟨i + 1,_,rfl,HImp.app _ _ _,⟨by omega,rfl,hinv⟩,by omega⟩
end Go.Proofs.YtljpknnhimkkjaaGreatDoor

