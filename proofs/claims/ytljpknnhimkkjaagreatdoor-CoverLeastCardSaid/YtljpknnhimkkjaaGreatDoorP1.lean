/- Parts of a proof: the symbolic walk and what it shows of single functions. -/
import Derived.Test.YtljpknnhimkkjaaGreatDoorC5
import Derived.Test.YtljpknnhimkkjaaGreatDoorX3
set_option linter.all false
namespace Go.Proofs.YtljpknnhimkkjaaGreatDoor
open Go.RowKit Go.SX
set_option maxRecDepth 10000
set_option maxHeartbeats 4000000
set_option linter.unusedSimpArgs false
set_option linter.unusedVariables false
structure Cls where
 draught:Int
 seas:Int
 move:Int
 idle:Int
 reserve:Int
 seats:Int
 moment:Int
def clv (b:Cls):Value:=.agg #[I b.draught,I b.seas,I b.move,I b.idle,I b.reserve,I b.seats,I b.moment]
def toldL (b:Cls):List Bool:=[inB b.draught 1 100,inB b.seas 0 100,inB b.move 1 100,inB b.idle 0 b.move,inB b.reserve 0 5000,inB b.seats 0 40,inB b.moment 0 1000000]
def clsB (b:Cls):Bool:=(toldL b).all id
theorem clsB_iff (b:Cls):clsB b = true ↔ (1 ≤ b.draught ∧ b.draught ≤ 100) ∧ (0 ≤ b.seas ∧ b.seas ≤ 100) ∧ (1 ≤ b.move ∧ b.move ≤ 100) ∧ (0 ≤ b.idle ∧ b.idle ≤ b.move) ∧ (0 ≤ b.reserve ∧ b.reserve ≤ 5000) ∧ (0 ≤ b.seats ∧ b.seats ≤ 40) ∧ 0 ≤ b.moment ∧ b.moment ≤ 1000000:=by
 unfold clsB toldL
 simp only [List.all_cons,List.all_nil,id_eq,Bool.and_true,Bool.and_eq_true,inB_iff]
theorem within5_fn (w:World) (n l h:Int):SX.Fn Tryz.prog 101 [I n,I l,I h] w (fun _=>False) fun v N=>v = .bool (inB n l h):=by
 refine walk [] [] (det0_ok _ _) Tryz.func101 rfl Tryz.ntmps101 res101 (by kernel_rfl) no_facts ?_
 simp (config := { maxSteps := 4000000 }) only [↓sxw,sxw,tf101,sxu,sxl,sxm,simprocAttr]
 unfold inB
 exact ⟨fun h1=>by simp [h1],fun h1=>by simp [h1]⟩
theorem from5_fn (w:World) (n l h:Int):SX.Fn Tryz.prog 151 [I n,I l,I h] w (fun _=>False) fun v N=>v = .bool (inB n l h):=by
 refine walk [] [] (det0_ok _ _) Tryz.func151 rfl Tryz.ntmps151 res151 (by kernel_rfl) no_facts ?_
 simp (config := { maxSteps := 4000000 }) only [↓sxw,sxw,tf151,sxu,sxl,sxm,simprocAttr]
 unfold inB
 exact ⟨fun h1=>by simp [h1],fun h1=>by simp [h1]⟩
def detQ:Nat → List Value → Option Value
 | 101,[.int .i64 n,.int .i64 l,.int .i64 h]=>some (.bool (inB n l h))
 | 151,[.int .i64 n,.int .i64 l,.int .i64 h]=>some (.bool (inB n l h))
 | g,xs=>detC g xs
theorem detQ_ok (w0:World) (X:Nat → Prop):DetFn Tryz.prog ⟨w0,X⟩ detQ:=by
 intro g args v h w hk
 unfold detQ at h
 split at h
 ·cases h
  exact det_of_fn (within5_fn w _ _ _)
 ·cases h
  exact det_of_fn (from5_fn w _ _ _)
 ·exact detC_ok w0 X _ _ _ h w hk
theorem detQ_eq:(∀ n l h:Int,detQ 101 [I n,I l,I h] = some (.bool (inB n l h))) ∧ (∀ n l h:Int,detQ 151 [I n,I l,I h] = some (.bool (inB n l h))) ∧ (∀ n,detQ 150 [I n] = some (.bool (inB n 1 100))):=⟨fun _ _ _=>rfl,fun _ _ _=>rfl,fun _=>rfl⟩
theorem indexB_fn (w:World) (v:Value) (l:List Bool) (x:Bool) (hs:Sl w v 1 (bools l)) (hb:l.length ≤ 1000000):SX.Fn Tryz.prog 178 [v,.bool x] w (fun _=>False) fun r N=>∃ n:Int,r = I n ∧ decide (n ≥ 0) = l.any (· == x):=by
 obtain ⟨a,n,c,rfl⟩:=hs.shape
 have hn:=hs.le b1_len (by omega)
 subst hn
 have hr:=hs.rd0
 refine walk [] [] (det0_ok _ _) Tryz.func178 rfl Tryz.ntmps178 res178 (by kernel_rfl) no_facts ?_
 simp (config := { maxSteps := 4000000 }) only [↓sxw,sxw,tf178,sxu,sxl,sxm,simprocAttr]
 refine loop_constH [] (HImp.nil _ _) [(4,5),(8,18)] (fun i:Nat=>[(8,I i)]) (fun i H1=>i ≤ l.length ∧ l.any (· == x) = (l.drop i).any (· == x)) (fun i=>l.length - i) 0 ?_ ⟨Nat.zero_le _,rfl⟩ ?_
 ·simp (config := { maxSteps := 4000000 }) only [↓sxw,sxw,tf178,sxu,sxl,sxm,simprocAttr]
  try simp
 rintro i H1 g1 ⟨hi,hinv⟩
 by_cases hin:i = l.length
 ·have e7:((i:Int) < (l.length:Int)) = False:=eq_false (by omega)
  rw [List.drop_of_length_le (by omega),List.any_nil] at hinv
  rw [hinv]
  refine ⟨?_⟩
  simp (config := { maxSteps := 4000000 }) only [↓sxw,sxw,tf178,sxu,sxl,sxm,simprocAttr,e7]
  exact ⟨-1,rfl,by simp⟩
 have e7:((i:Int) < (l.length:Int)) = True:=eq_true (by omega)
 have e2:wr (i + 1) = ((i + 1:Nat):Int):=(wrap_id (by omega)).trans (by omega)
 have hil:i < l.length:=by omega
 have hu:=List.getElem?_eq_getElem hil
 rw [List.drop_eq_getElem_cons hil,List.any_cons] at hinv
 generalize l[i] = y at hu hinv
 refine ⟨?_⟩
 simp (config := { maxSteps := 4000000 }) only [↓sxw,sxw,tf178,sxu,sxl,sxm,simprocAttr,e7]
 refine amid (at_1 (hr _) b1_len hu rfl fun ad1=>?_)
 cases x <;> cases y
 ·simp (config := { maxSteps := 4000000 }) only [↓sxw,sxw,tf178,sxu,sxl,sxm,simprocAttr]
  exact ⟨i,rfl,by rw [hinv]; simp⟩
 ·simp (config := { maxSteps := 4000000 }) only [↓sxw,sxw,tf178,sxu,sxl,sxm,simprocAttr,e2]
  exact ⟨i + 1,_,rfl,HImp.refl _ _,⟨by omega,by simpa using hinv⟩,by omega⟩
 ·simp (config := { maxSteps := 4000000 }) only [↓sxw,sxw,tf178,sxu,sxl,sxm,simprocAttr,e2]
  exact ⟨i + 1,_,rfl,HImp.refl _ _,⟨by omega,by simpa using hinv⟩,by omega⟩
 ·simp (config := { maxSteps := 4000000 }) only [↓sxw,sxw,tf178,sxu,sxl,sxm,simprocAttr]
  exact ⟨i,rfl,by rw [hinv]; simp⟩
theorem containsB_fn (w:World) (v:Value) (l:List Bool) (x:Bool) (hs:Sl w v 1 (bools l)) (hb:l.length ≤ 1000000):SX.Fn Tryz.prog 162 [v,.bool x] w (fun _=>False) fun r N=>r = .bool (l.any (· == x)):=by
 refine walk [] [] (det0_ok _ _) Tryz.func162 rfl Tryz.ntmps162 res162 (by kernel_rfl) no_facts ?_
 simp (config := { maxSteps := 4000000 }) only [↓sxw,sxw,tf162,sxu,sxl,sxm,simprocAttr,det0]
 refine CallOb.pureH (fun w' hp=>indexB_fn w' v l x (hs.hp (fun _ _=>id) hp) hb) ?_
 rintro r N ⟨n,rfl,hn⟩
 refine ⟨?_⟩
 simp (config := { maxSteps := 4000000 }) only [↓sxw,sxw,tf162,sxu,sxl,sxm,simprocAttr,hn]
theorem cells_sl {w0:Base} {H:List HO} {b n c:Nat} {T:TypeId} {cs:List Value} (h:HO.cells b T cs ∈ H) (hn:cs.length = n) {w:World} (hp:Hp w0 H w):Sl w (.slice (some ((⟨b,0,none⟩:Addr).add 0)) n c) 1 cs:=by
 refine ⟨_,_,_,rfl,by omega,fun i x hx=>⟨_,rfl,?_⟩⟩
 rw [add_block,add_block,cell_of_cells (hp.ok _ h)]
 simpa using hx
def pl130_1:Plan:=(ones [0,3,6,9,11,14,17,20] (.ld 1 (.ld 4 (.ld 7 (.ld 10 (.ld 12 (.ld 15 (.ld 18 (.ld 21 (.pre 24 (ones [2,5,8,13,16,19,22,23,24] (.kl 25 .fin))))))))))))
def pl130:List (Nat × Plan):=[(1,pl130_1)]
theorem pl130_lk:(lkO 1 pl130 = some pl130_1):=rfl
theorem check5_fn (w:World) (b:Cls):SX.Fn Tryz.prog 130 [clv b] w (fun _=>False) fun r N=>r = I (if clsB b then 0 else 50):=by
 have ha:arT Tryz.prog 224 = some (7,1,none):=by kernel_rfl
 unfold clv
 refine walk [3] pl130 (detQ_ok _ _) Tryz.func130 rfl Tryz.ntmps130 res130 (by kernel_rfl) no_facts ?_
 simp (config := { maxSteps := 4000000 }) only [↓sxw,sxw,tf130,sxu,sxl,sxm,simprocAttr,detQ_eq,pl130_lk,pl130_1]
 intro b1
 refine wr_cell (A:=[]) rfl (by simp) ?_
 simp (config := { maxSteps := 4000000 }) only [↓sxw,sxw,tf130,sxu,sxl,sxm,simprocAttr,ha,det0,List.take,List.drop,List.length_cons,List.length_nil,List.nil_append,pl130_lk,pl130_1]
 refine CallOb.pureH (fun w' hp=>containsB_fn w' _ (toldL b) false (cells_sl (T:=224) (cs:=bools (toldL b)) List.mem_cons_self rfl hp) (by simp [toldL])) ?_
 rintro r N rfl
 have hc:((toldL b).any fun x=>x == false) = !clsB b:=by
  unfold clsB
  rw [List.all_eq_not_any_not,Bool.not_not]
  congr 1
  funext x
  cases x <;> rfl
 rw [hc]
 cases hB:clsB b with
 | true=>
  refine ⟨?_⟩
  simp (config := { maxSteps := 4000000 }) only [↓sxw,sxw,tf130,sxu,sxl,sxm,simprocAttr]
 | false=>
  refine ⟨?_⟩
  simp (config := { maxSteps := 4000000 }) only [↓sxw,sxw,tf130,sxu,sxl,sxm,simprocAttr]
theorem rcheck5_fn (w:World) (b:Cls):SX.Fn Tryz.prog 104 [clv b] w (fun _=>False) fun r N=>r = I (if clsB b then 0 else 50):=by
 unfold clv clsB toldL
 refine walk [] [] (detQ_ok _ _) Tryz.func104 rfl Tryz.ntmps104 res104 (by kernel_rfl) no_facts ?_
 cases h1:inB b.draught 1 100 with
 | false=>
  simp (config := { maxSteps := 4000000 }) only [↓sxw,sxw,tf104,sxu,sxl,sxm,simprocAttr,detQ_eq,h1]
  try rfl
 | true=>
 cases h2:inB b.seas 0 100 with
 | false=>
  simp (config := { maxSteps := 4000000 }) only [↓sxw,sxw,tf104,sxu,sxl,sxm,simprocAttr,detQ_eq,h1,h2]
  try rfl
 | true=>
 cases h3:inB b.move 1 100 with
 | false=>
  simp (config := { maxSteps := 4000000 }) only [↓sxw,sxw,tf104,sxu,sxl,sxm,simprocAttr,detQ_eq,h1,h2,h3]
  try rfl
 | true=>
 cases h4:inB b.idle 0 b.move with
 | false=>
  simp (config := { maxSteps := 4000000 }) only [↓sxw,sxw,tf104,sxu,sxl,sxm,simprocAttr,detQ_eq,h1,h2,h3,h4]
  try rfl
 | true=>
 cases h5:inB b.reserve 0 5000 with
 | false=>
  simp (config := { maxSteps := 4000000 }) only [↓sxw,sxw,tf104,sxu,sxl,sxm,simprocAttr,detQ_eq,h1,h2,h3,h4,h5]
  try rfl
 | true=>
 cases h6:inB b.seats 0 40 with
 | false=>
  simp (config := { maxSteps := 4000000 }) only [↓sxw,sxw,tf104,sxu,sxl,sxm,simprocAttr,detQ_eq,h1,h2,h3,h4,h5,h6]
  try rfl
 | true=>
 cases h7:inB b.moment 0 1000000 with
 | false=>
  simp (config := { maxSteps := 4000000 }) only [↓sxw,sxw,tf104,sxu,sxl,sxm,simprocAttr,detQ_eq,h1,h2,h3,h4,h5,h6,h7]
  try rfl
 | true=>
  simp (config := { maxSteps := 4000000 }) only [↓sxw,sxw,tf104,sxu,sxl,sxm,simprocAttr,detQ_eq,h1,h2,h3,h4,h5,h6,h7]
  try rfl
end Go.Proofs.YtljpknnhimkkjaaGreatDoor

namespace Go.Proofs.YtljpknnhimkkjaaGreatDoor
open Go.RowKit Go.SX
set_option maxRecDepth 10000
set_option maxHeartbeats 0
set_option linter.unusedSimpArgs false
set_option linter.unusedVariables false
abbrev Lp (α:Type):=List α × Option Addr × Nat × Nat
def lpv {α:Type} (p:Lp α):Value:=.slice p.2.1 p.2.2.1 p.2.2.2
def lpc {α:Type} (p:Lp α):List Value:=[lpv p]
theorem lpc_len {α:Type} (p:Lp α):(lpc p).length = 1:=rfl
theorem lpc_one {α:Type} (p:Lp α):∀ y ∈ lpc p,y.oneCell' = true:=by simp [lpc,lpv,Value.oneCell']
def LLOk {α:Type} (f:α → List Value) (sz:Nat) (w:World) (v:Value) (cs:List (List α)):Prop:=∃ ps:List (Lp α),ps.map Prod.fst = cs ∧ Sl w v 1 (cat lpc ps) ∧ ∀ p ∈ ps,Sl w (lpv p) sz (cat f p.1)
def LLN {α:Type} (f:α → List Value) (sz:Nat) (T E:TypeId) (N:List HO) (v:Value) (cs:List (List α)):Prop:=∃ ps:List (Lp α),ps.map Prod.fst = cs ∧ HO.row v T 1 (cat lpc ps) ∈ N ∧ ∀ p ∈ ps,HO.row (lpv p) E sz (cat f p.1) ∈ N
theorem LLN.ok {α:Type} {f:α → List Value} {sz:Nat} {T E:TypeId} {N H:List HO} {v:Value} {cs:List (List α)} (h:LLN f sz T E N v cs) (hm:∀ h ∈ N,h ∈ H) {w0:Base} {w:World} (hp:Hp w0 H w):LLOk f sz w v cs:=by
 obtain ⟨ps,h1,h2,h3⟩:=h
 exact ⟨ps,h1,row_hp (hm _ h2) hp,fun p h=>row_hp (hm _ (h3 p h)) hp⟩
theorem LLOk.hp {α:Type} {f:α → List Value} {sz:Nat} {w0:World} {H:List HO} {v:Value} {cs:List (List α)} (h:LLOk f sz w0 v cs) {w:World} (hp:Hp ⟨w0,fun _=>False⟩ H w):LLOk f sz w v cs:=by
 obtain ⟨ps,h1,h2,h3⟩:=h
 exact ⟨ps,h1,Sl.hp (w0:=⟨w0,fun _=>False⟩) h2 (fun _ _=>id) hp,fun p hm=>Sl.hp (w0:=⟨w0,fun _=>False⟩) (h3 p hm) (fun _ _=>id) hp⟩
def staC (c:Cht) (b:Cls) (k:Int) (sD sT sS vr vc vn:Value):List Value:=[I c.wide,I c.high,sD,sT,sS,I b.draught,I b.seas,I b.move,I b.idle,I b.reserve,I b.seats,I b.moment,I k,vr,vc,vn]
def StaOk (w:World) (bs:Nat) (c:Cht) (b:Cls) (k:Int) (rd:List Bool) (cn:List (List Bool)) (nr:List (List Int)):Prop:=∃ sD sT sS vr vc vn,(∀ (i:Nat) v,(staC c b k sD sT sS vr vc vn)[i]? = some v → w.cell? ⟨bs,i,none⟩ = some v) ∧ ChOk w (.agg #[I c.wide,I c.high,sD,sT,sS]) c ∧ Sl w vr 1 (bools rd) ∧ LLOk b1 1 w vc cn ∧ LLOk i1 1 w vn nr
def StaN (N:List HO) (v:Value) (bs:Nat) (c:Cht) (b:Cls) (k:Int) (rd:List Bool) (cn:List (List Bool)) (nr:List (List Int)):Prop:=∃ sD sT sS vr vc vn,v = .agg #[I c.wide,I c.high,sD,sT,sS] ∧ HO.cells bs 198 (staC c b k sD sT sS vr vc vn) ∈ N ∧ HO.row vr 4 1 (bools rd) ∈ N ∧ LLN b1 1 194 4 N vc cn ∧ LLN i1 1 22 3 N vn nr
theorem StaN.ok {N H:List HO} {v:Value} {bs:Nat} {c:Cht} {b:Cls} {k:Int} {rd:List Bool} {cn:List (List Bool)} {nr:List (List Int)} (h:StaN N v bs c b k rd cn nr) (hm:∀ h ∈ N,h ∈ H) {w0:World} (hc:ChOk w0 v c) {w:World} (hp:Hp ⟨w0,fun _=>False⟩ H w):StaOk w bs c b k rd cn nr:=by
 obtain ⟨sD,sT,sS,vr,vc,vn,rfl,h1,h2,h3,h4⟩:=h
 exact ⟨sD,sT,sS,vr,vc,vn,cells_old (hm _ h1) hp,hc.hp hp,row_hp (hm _ h2) hp,h3.ok hm hp,h4.ok hm hp⟩
theorem StaOk.hp {w0:World} {bs:Nat} {c:Cht} {b:Cls} {k:Int} {rd:List Bool} {cn:List (List Bool)} {nr:List (List Int)} (h:StaOk w0 bs c b k rd cn nr) {H:List HO} {w:World} (hp:Hp ⟨w0,fun _=>False⟩ H w):StaOk w bs c b k rd cn nr:=by
 obtain ⟨sD,sT,sS,vr,vc,vn,h1,h2,h3,h4,h5⟩:=h
 exact ⟨sD,sT,sS,vr,vc,vn,cell_keep h1 hp.ext,h2.hp hp,h3.hp (fun _ _=>id) hp,h4.hp hp,h5.hp hp⟩
def Rmp.own (r:Rmp) (b:Cls):Rmp:=⟨r.cell,b.draught,r.least,r.most,r.surf⟩
noncomputable def rdyB (c:Cht) (b:Cls) (r:Rmp) (t:Nat):Bool:=sureT c (r.own b) t && decide (c.swl t ≤ b.seas)
def canB (c:Cht) (b:Cls) (t k:Nat):Bool:=decide (c.over k t (c.tlo t) ≥ b.draught) && decide (c.swl t ≤ b.seas)
noncomputable def rdyL (c:Cht) (b:Cls) (r:Rmp):List Bool:=(List.range c.tide.length).map (rdyB c b r)
def canT (c:Cht) (b:Cls) (t:Nat):List Bool:=(List.range c.depth.length).map (canB c b t)
def canL (c:Cht) (b:Cls):List (List Bool):=(List.range c.tide.length).map (canT c b)
def nearL (c:Cht):List (List Int):=(List.range c.depth.length).map fun k=>nts (nbL c.W c.H k)
noncomputable def staE (c:Cht) (b:Cls) (r:Rmp) (t f:Int):Int:=
 if c.okB then (if clsB b then (if rampB c r then (if inB t 0 ((c.tide.length:Int) - 1) && inB f 0 5000 then 0 else 1) else 11) else 50) else 10
theorem staE_zero {c:Cht} {b:Cls} {r:Rmp} {t f:Int} (h:staE c b r t f = 0):c.ok ∧ clsB b = true ∧ rampB c r = true ∧ (0 ≤ t ∧ t ≤ (c.tide.length:Int) - 1) ∧ 0 ≤ f ∧ f ≤ 5000:=by
 unfold staE at h
 split at h
 ·rename_i h1
  split at h
  ·rename_i h2
   split at h
   ·rename_i h3
    split at h
    ·rename_i h4
     rw [Bool.and_eq_true,inB_iff,inB_iff] at h4
     exact ⟨(okB_iff c).1 h1,h2,h3,h4⟩
    ·cases h
   ·cases h
  ·cases h
 ·cases h
noncomputable def detO (v:Value) (c:Cht):Nat → List Value → Option Value:=open Classical in fun
 | 131,[x,.int .i64 g,.int .i64 k,.int .i64 t]=>if x = v ∧ c.small then some (floatsV c g k t) else none
 | 132,[x,.int .i64 k,.int .i64 d]=>if x = v ∧ c.small then some (nextE c k d) else none
 | 101,[.int .i64 n,.int .i64 l,.int .i64 h]=>some (.bool (inB n l h))
 | 151,[.int .i64 n,.int .i64 l,.int .i64 h]=>some (.bool (inB n l h))
 | 130,[.agg ⟨[.int .i64 x1,.int .i64 x2,.int .i64 x3,.int .i64 x4,.int .i64 x5,.int .i64 x6,.int .i64 x7]⟩]=>some (I (if clsB ⟨x1,x2,x3,x4,x5,x6,x7⟩ then 0 else 50))
 | 104,[.agg ⟨[.int .i64 x1,.int .i64 x2,.int .i64 x3,.int .i64 x4,.int .i64 x5,.int .i64 x6,.int .i64 x7]⟩]=>some (I (if clsB ⟨x1,x2,x3,x4,x5,x6,x7⟩ then 0 else 50))
 | g,xs=>detR v c g xs
theorem detO_ok {v:Value} {c:Cht} {w0:World} {X:Nat → Prop} (hw:Ways w0) (hc:ChOk w0 v c) (hX:∀ b,b < w0.heap.size → ¬ X b):DetFn Tryz.prog ⟨w0,X⟩ (detO v c):=by
 intro g args r h w hk
 have hc':=hc.keep hk hX
 have hw':=hw.keep hk (hX _ (ways_lt hw))
 unfold detO at h
 split at h
 ·split at h
  ·rename_i hcond
   obtain ⟨rfl,hsm⟩:=hcond
   cases h
   exact det_of_fn (floats1_fn w _ c hc' hsm _ _ _)
  ·cases h
 ·split at h
  ·rename_i hcond
   obtain ⟨rfl,hsm⟩:=hcond
   cases h
   exact det_of_fn (next1_fn w hw' _ c hc' hsm _ _)
  ·cases h
 ·cases h
  exact det_of_fn (within5_fn w _ _ _)
 ·cases h
  exact det_of_fn (from5_fn w _ _ _)
 ·cases h
  exact det_of_fn (check5_fn w ⟨_,_,_,_,_,_,_⟩)
 ·cases h
  exact det_of_fn (rcheck5_fn w ⟨_,_,_,_,_,_,_⟩)
 ·exact detR_ok hw hc hX _ _ _ h w hk
theorem detO_eq (v:Value) (c:Cht):(∀ n l h:Int,detO v c 101 [I n,I l,I h] = some (.bool (inB n l h))) ∧ (∀ n l h:Int,detO v c 151 [I n,I l,I h] = some (.bool (inB n l h))) ∧
  (∀ x1 x2 x3 x4 x5 x6 x7:Int,detO v c 130 [.agg #[I x1,I x2,I x3,I x4,I x5,I x6,I x7]] = some (I (if clsB ⟨x1,x2,x3,x4,x5,x6,x7⟩ then 0 else 50))) ∧
  (∀ x1 x2 x3 x4 x5 x6 x7:Int,detO v c 104 [.agg #[I x1,I x2,I x3,I x4,I x5,I x6,I x7]] = some (I (if clsB ⟨x1,x2,x3,x4,x5,x6,x7⟩ then 0 else 50))):=⟨fun _ _ _=>rfl,fun _ _ _=>rfl,fun _ _ _ _ _ _ _=>rfl,fun _ _ _ _ _ _ _=>rfl⟩
theorem detO_floats {v:Value} {c:Cht} (hsm:c.small) (hok:c.ok) {g:Int} (hg:1 ≤ g ∧ g ≤ 100) {k t:Nat} (hk:k < c.depth.length) (ht:t < c.tide.length):detO v c 131 [v,I g,I k,I t] = some (.tuple #[.bool (decide (c.over k t (c.tlo t) ≥ g)),.bool (decide (c.over k t (c.thi t) ≥ g)),I 0]):=by
 have h1:detO v c 131 [v,I g,I k,I t] = some (floatsV c g k t):=if_pos ⟨rfl,hsm⟩
 have h2:openE c [(k:Int)] [(t:Int)] [g] = 0:=by
  unfold openE notCell notTick notDraught
  rw [if_pos ((okB_iff c).2 hok),if_neg]
  simp only [List.any_cons,List.any_nil,Bool.or_false,Bool.or_eq_true,Bool.not_eq_true',not_or,Bool.not_eq_false,inB_iff]
  omega
 rw [h1]
 unfold floatsV
 rw [if_pos h2]
 try rfl
theorem detO_next {v:Value} {c:Cht} (hsm:c.small) (hok:c.ok) {k d:Nat} (hk:k < c.depth.length) (hd:d < 6):detO v c 132 [v,I k,I d] = some (match bes c.W c.H k d with | some n=>.tuple #[I n,I 0] | none=>.tuple #[I 0,I 3]):=by
 have h1:detO v c 132 [v,I k,I d] = some (nextE c k d):=if_pos ⟨rfl,hsm⟩
 rw [h1]
 unfold nextE notCell
 rw [if_pos ((okB_iff c).2 hok),if_neg]
 ·rfl
 ·simp only [Bool.or_eq_true,Bool.not_eq_true',not_or,Bool.not_eq_false,inB_iff]
  omega
end Go.Proofs.YtljpknnhimkkjaaGreatDoor

namespace Go.Proofs.YtljpknnhimkkjaaGreatDoor
open Go.RowKit Go.SX
set_option maxRecDepth 10000
set_option maxHeartbeats 0
set_option linter.unusedSimpArgs false
set_option linter.unusedVariables false
def OpenP (v:Value) (c:Cht) (b:Cls) (r:Rmp) (t f:Int) (q:Value) (N:List HO):Prop:=(staE c b r t f ≠ 0 ∧ q = .tuple #[.pointer none,I (staE c b r t f)]) ∨ (staE c b r t f = 0 ∧ ∃ bs,q = .tuple #[.pointer (some ⟨bs,0,none⟩),I 0] ∧ StaN N v bs c b r.cell (rdyL c b r) (canL c b) (nearL c))
def isF (X:List Bool) (n:Nat) (p:Nat → Bool):Prop:=X.length = n ∧ ∀ u,u < n → X.getD u false = p u
theorem isF.eq {X:List Bool} {n:Nat} {p:Nat → Bool} (h:isF X n p):X = (List.range n).map p:=by
 refine List.ext_getElem? fun i=>?_
 rw [List.getElem?_map]
 by_cases hi:i < n
 ·rw [List.getElem?_range hi]
  have:=h.2 i hi
  rw [List.getD_eq_getElem?_getD,List.getElem?_eq_getElem (by rw [h.1]; exact hi)] at this
  rw [List.getElem?_eq_getElem (by rw [h.1]; exact hi)]
  simpa using this
 ·have h1:=h.1
  have e1:X[i]? = none:=List.getElem?_eq_none (by omega)
  have e2:(List.range n)[i]? = none:=List.getElem?_eq_none (by rw [List.length_range]; omega)
  rw [e1,e2]
  try rfl
theorem isF.set {X:List Bool} {n:Nat} {p q:Nat → Bool} {k:Nat} (h:isF X n p) {x:Bool} (hk:k < n) (hx:x = q k) (hq:∀ u,u < n → u ≠ k → p u = q u):isF (X.set k x) n q:=by
 refine ⟨by rw [List.length_set]; exact h.1,fun u hu=>?_⟩
 rw [List.getD_eq_getElem?_getD,List.getElem?_set]
 by_cases e:k = u
 ·subst e
  rw [if_pos rfl,if_pos (by rw [h.1]; exact hk),Option.getD_some,hx]
 ·rw [if_neg e,← List.getD_eq_getElem?_getD,h.2 u hu]
  exact hq u hu fun e'=>e e'.symm
theorem isF.rep (n:Nat):isF (List.replicate n false) n fun _=>false:=⟨List.length_replicate,fun u hu=>by rw [List.getD_eq_getElem?_getD,List.getElem?_replicate,if_pos hu]; rfl⟩
theorem isF.congr {X:List Bool} {n:Nat} {p q:Nat → Bool} (h:isF X n p) (hq:∀ u,u < n → p u = q u):isF X n q:=⟨h.1,fun u hu=>(h.2 u hu).trans (hq u hu)⟩
theorem own_ramp {c:Cht} {b:Cls} {r:Rmp} (hb:clsB b = true) (hr:rampB c r = true):rampB c (r.own b) = true:=by
 have h1:=((clsB_iff b).1 hb).1
 unfold rampB Rmp.own at *
 simp only [Bool.and_eq_true,inB_iff] at hr ⊢
 exact ⟨⟨⟨⟨hr.1.1.1.1,h1⟩,hr.1.1.2⟩,hr.1.2⟩,hr.2⟩
theorem open5_fn (w:World) (hw:Ways w) (v:Value) (c:Cht) (hc:ChOk w v c) (hsm:c.small) (b:Cls) (r:Rmp) (t f:Int):
  SX.Fn Tryz.prog 74 [v,clv b,rmv r,I t,I f] w (fun _=>False) (OpenP v c b r t f):=by
 have hc0:=hc
 have hD:=detO_ok (X:=fun _=>False) hw hc (fun _ _=>id)
 have hck:detO v c 60 [v] = some (I (if c.okB then 0 else 10)):=(detM_check (v:=v) hsm).1
 have hfl:=@detO_floats v c hsm
 have hnx:=@detO_next v c hsm
 obtain ⟨sD,sT,sS,rfl,hsD,hsT,hsS⟩:=hc
 obtain ⟨aD,nD,cD,rfl⟩:=hsD.shape
 obtain ⟨aT,nT,cT,rfl⟩:=hsT.shape
 obtain ⟨aS,nS,cS,rfl⟩:=hsS.shape
 have hnD:=hsD.le i1_len (by omega)
 have hnT:=hsT.le spc_len (by omega)
 have hnS:=hsS.le i1_len (by omega)
 subst hnD hnT hnS
 have hrS:=hsS.rd0
 have htl:c.tide.length ≤ 100:=hsm.2.1
 have dq:=detO_eq (.agg #[I c.wide,I c.high,.slice aD c.depth.length cD,.slice aT c.tide.length cT,.slice aS c.swell.length cS]) c
 have dn:(∀ xs,detO (.agg #[I c.wide,I c.high,.slice aD c.depth.length cD,.slice aT c.tide.length cT,.slice aS c.swell.length cS]) c 19 xs = none):=fun _=>rfl
 have hwin:=fun (H:List HO) w' (hp:Hp ⟨w,fun _=>False⟩ H w') r=>win_fn w' _ c r (hc0.hp hp) hsm
 unfold clv rmv OpenP
 refine walk [22,76] [] hD Tryz.func74 rfl Tryz.ntmps74 res74 (by kernel_rfl) no_facts ?_
 cases hok:c.okB with
 | false=>
  rw [hok] at hck
  have hE:staE c b r t f = 10:=by unfold staE; rw [hok]; rfl
  rw [hE]
  simp (config := { maxSteps := 4000000 }) only [↓sxw,sxw,tf74,sxu,sxl,sxm,simprocAttr,hck]
  exact .inl trivial
 | true=>
 rw [hok] at hck
 have hok':=(okB_iff c).1 hok
 cases hcl:clsB b with
 | false=>
  have hE:staE c b r t f = 50:=by unfold staE; rw [hok,hcl]; rfl
  have hcl':clsB ⟨b.draught,b.seas,b.move,b.idle,b.reserve,b.seats,b.moment⟩ = false:=hcl
  rw [hE]
  simp (config := { maxSteps := 4000000 }) only [↓sxw,sxw,tf74,sxu,sxl,sxm,simprocAttr,hck,dq,hcl']
  exact .inl trivial
 | true=>
 have hcl':clsB ⟨b.draught,b.seas,b.move,b.idle,b.reserve,b.seats,b.moment⟩ = true:=hcl
 simp (config := { maxSteps := 4000000 }) only [↓sxw,sxw,tf74,sxu,sxl,sxm,simprocAttr,hck,dq,hcl',dn]
 refine CallOb.pureH (fun w' hp=>hwin _ w' hp r) ?_
 rintro q N ⟨x1,y1,rfl,_,_⟩
 cases hr:rampB c r with
 | false=>
  have hE:staE c b r t f = 11:=by unfold staE; rw [hok,hcl,hr]; rfl
  have hwe:winE c r = 11:=by unfold winE winOk; rw [hok,hr]; rfl
  rw [hE,hwe]
  refine ⟨?_⟩
  simp (config := { maxSteps := 4000000 }) only [↓sxw,sxw,tf74,sxu,sxl,sxm,simprocAttr]
  exact .inl trivial
 | true=>
 have hwe:winE c r = 0:=by unfold winE winOk; rw [hok,hr]; rfl
 have e0:wr ((c.tide.length:Int) - 1) = (c.tide.length:Int) - 1:=wrap_id (by omega)
 rw [hwe]
 cases h1:inB t 0 ((c.tide.length:Int) - 1) with
 | false=>
  have hE:staE c b r t f = 1:=by unfold staE; rw [hok,hcl,hr,h1]; rfl
  rw [hE]
  refine ⟨?_⟩
  simp (config := { maxSteps := 4000000 }) only [↓sxw,sxw,tf74,sxu,sxl,sxm,simprocAttr,dq,e0,h1]
  exact .inl trivial
 | true=>
 cases h2:inB f 0 5000 with
 | false=>
  have hE:staE c b r t f = 1:=by unfold staE; rw [hok,hcl,hr,h1,h2]; rfl
  rw [hE]
  refine ⟨?_⟩
  simp (config := { maxSteps := 4000000 }) only [↓sxw,sxw,tf74,sxu,sxl,sxm,simprocAttr,dq,e0,h1,h2]
  exact .inl trivial
 | true=>
 have hE:staE c b r t f = 0:=by unfold staE; rw [hok,hcl,hr,h1,h2]; rfl
 rw [hE]
 refine ⟨?_⟩
 simp (config := { maxSteps := 4000000 }) only [↓sxw,sxw,tf74,sxu,sxl,sxm,simprocAttr,dq,e0,h1,h2,dn]
 refine ⟨by omega,by omega,by omega,fun b1' bs=>?_⟩
 refine CallOb.pureH (fun w' hp=>hwin _ w' hp (r.own b)) ?_
 rintro q N2 ⟨x2,y2,rfl,hx2,_⟩
 have hrr:rampB c (r.own b) = true:=own_ramp hcl hr
 have hwk:winOk c (r.own b) = true:=by unfold winOk; rw [hok,hrr]; rfl
 have hwe2:winE c (r.own b) = 0:=by unfold winE; rw [if_pos hwk]
 have hSe:winS c (r.own b) = winL (sureT c (r.own b)) c.tide.length:=by unfold winS; rw [if_pos hwk]
 rw [hSe] at hx2
 obtain ⟨hS1,hS2⟩:=winL_ok (sureT c (r.own b)) c.tide.length
 obtain ⟨S,hS⟩:∃ S,winL (sureT c (r.own b)) c.tide.length = S:=⟨_,rfl⟩
 have hSl:=winL_len (sureT c (r.own b)) c.tide.length
 rw [hS] at hS1 hS2 hx2 hSl
 have hrx:=fun (H:List HO) (hm:∀ h ∈ N2,h ∈ H)=>hx2.rdv (w0:=⟨w,fun _=>False⟩) (H:=H) spc_len hm
 obtain ⟨ax,cx,rfl⟩:=hx2.shape
 have hds:=hok'.2.2.2.2.1
 have h60:c.tide.length ≤ 60:=hok'.2.2.2.1.2
 rw [hwe2]
 obtain ⟨vr,hvr⟩:∃ vr,Value.slice (some (⟨b1',0,none⟩:Addr)) c.tide.length c.tide.length = vr:=⟨_,rfl⟩
 refine ⟨?_⟩
 simp (config := { maxSteps := 4000000 }) only [↓sxw,sxw,tf74,sxu,sxl,sxm,simprocAttr]
 refine loop_constH (.row (.slice (some ⟨b1',0,none⟩) c.tide.length c.tide.length) 4 1 (bools (List.replicate c.tide.length false)) :: .cells bs 198 (staC c b r.cell (.slice aD c.depth.length cD) (.slice aT c.tide.length cT) (.slice aS c.swell.length cS) (.slice (some ⟨b1',0,none⟩) c.tide.length c.tide.length) (.slice none 0 0) (.slice none 0 0)) :: N2) ?_ [(22,23),(89,115)] (fun q:Nat × List Bool=>[(89,I q.1)])
  (fun q H1=>q.1 ≤ S.length ∧ isF q.2 c.tide.length (fun u=>(S.take q.1).any (inW u) && decide (c.swl u ≤ b.seas)) ∧ H1 = .row (.slice (some ⟨b1',0,none⟩) c.tide.length c.tide.length) 4 1 (bools q.2) :: .cells bs 198 (staC c b r.cell (.slice aD c.depth.length cD) (.slice aT c.tide.length cT) (.slice aS c.swell.length cS) (.slice (some ⟨b1',0,none⟩) c.tide.length c.tide.length) (.slice none 0 0) (.slice none 0 0)) :: N2) (fun q=>S.length - q.1) (0,List.replicate c.tide.length false) ?_ ⟨Nat.zero_le _,(isF.rep _).congr fun u _=>by simp,rfl⟩ ?_
 ·rw [show bools (List.replicate c.tide.length false) = zerosL c.tide.length [Value.bool false] from (zeros_cat b1 false _).symm]
  exact HImp.trans (HImp.sub (List.Sublist.append (List.Sublist.refl N2) (((List.nil_sublist N).cons_cons _).cons_cons _))) (HImp.trans (HImp.perm List.perm_append_comm) (HImp.swap _ _ _ _))
 ·simp (config := { maxSteps := 4000000 }) only [↓sxw,sxw,tf74,sxu,sxl,sxm,simprocAttr]
  try simp
 rintro ⟨j,X⟩ H1 g1 hinv
 simp only [] at hinv
 obtain ⟨hj,hX,rfl⟩:=hinv
 by_cases hjn:j = S.length
 ·have e7:((j:Int) < (S.length:Int)) = False:=eq_false (by omega)
  have hXe:X = rdyL c b r:=by
   refine (hX.congr fun u hu=>?_).eq
   rw [hjn,List.take_of_length_le (Nat.le_refl _),hS2 u,decide_eq_true hu,Bool.true_and]
   try rfl
  rw [hXe]
  refine ⟨?_⟩
  simp (config := { maxSteps := 4000000 }) only [↓sxw,sxw,tf74,sxu,sxl,sxm,simprocAttr,e7]
  refine loop_constH (.row (.slice none 0 0) 194 1 (cat lpc ([]:List (Lp Bool))) :: HO.cells bs 198 (staC c b r.cell (.slice aD c.depth.length cD) (.slice aT c.tide.length cT) (.slice aS c.swell.length cS) (.slice (some ⟨b1',0,none⟩) c.tide.length c.tide.length) (.slice none 0 0) (.slice none 0 0)) :: [HO.row (.slice (some ⟨b1',0,none⟩) c.tide.length c.tide.length) 4 1 (bools (rdyL c b r))]) ?_ [(24,29),(119,166)] (fun q:Nat × Option Addr × Nat=>[(119,I q.1)])
   (fun q H1=>q.1 ≤ c.tide.length ∧ ∃ ps DF,ps.map Prod.fst = (canL c b).take q.1 ∧ (q.2.1 = none → ps = []) ∧ H1 = .row (.slice q.2.1 q.1 q.2.2) 194 1 (cat lpc (ps:List (Lp Bool))) :: HO.cells bs 198 (staC c b r.cell (.slice aD c.depth.length cD) (.slice aT c.tide.length cT) (.slice aS c.swell.length cS) (.slice (some ⟨b1',0,none⟩) c.tide.length c.tide.length) (.slice q.2.1 q.1 q.2.2) (.slice none 0 0)) :: DF ∧ HO.row (.slice (some ⟨b1',0,none⟩) c.tide.length c.tide.length) 4 1 (bools (rdyL c b r)) ∈ DF ∧ ∀ p ∈ ps,HO.row (lpv p) 4 1 (bools p.1) ∈ DF) (fun q=>c.tide.length - q.1) (0,none,0) ?_ ⟨Nat.zero_le _,[],_,rfl,fun _=>rfl,rfl,List.mem_singleton_self _,fun p hp=>by cases hp⟩ ?_
  ·exact (HImp.nilRow _ _ _ _).trans ((HImp.sub (((List.nil_sublist N2).cons_cons _).cons_cons _ |>.cons_cons _)).trans (HImp.perm (List.Perm.cons _ (List.Perm.swap _ _ _))))
  ·simp (config := { maxSteps := 4000000 }) only [↓sxw,sxw,tf74,sxu,sxl,sxm,simprocAttr]
   try simp
  rintro ⟨t2,ac,cc⟩ H2 g2 hinv2
  simp only [] at hinv2
  obtain ⟨ht2,ps,DF,hps,hnil,rfl,hrd,hDF⟩:=hinv2
  by_cases htn:t2 = c.tide.length
  ·subst htn
   have e8:((c.tide.length:Int) < (c.tide.length:Int)) = False:=eq_false (by omega)
   rw [List.take_of_length_le (by unfold canL; rw [List.length_map,List.length_range]; exact Nat.le_refl _)] at hps
   obtain ⟨DF2,hDF2⟩:∃ DF2,HO.row (.slice ac c.tide.length cc) 194 1 (cat lpc (ps:List (Lp Bool))) :: DF = DF2:=⟨_,rfl⟩
   have hLN:∀ H,(∀ h ∈ DF2,h ∈ H) → HO.row (.slice (some ⟨b1',0,none⟩) c.tide.length c.tide.length) 4 1 (bools (rdyL c b r)) ∈ H ∧ LLN b1 1 194 4 H (.slice ac c.tide.length cc) (canL c b):=fun H hm=>by
    subst hDF2
    exact ⟨hm _ (List.mem_cons_of_mem _ hrd),ps,hps,hm _ List.mem_cons_self,fun p hp=>hm _ (List.mem_cons_of_mem _ (hDF p hp))⟩
   have hdl:c.depth.length ≤ 200:=hsm.1
   refine ⟨?_⟩
   simp (config := { maxSteps := 4000000 }) only [↓sxw,sxw,tf74,sxu,sxl,sxm,simprocAttr,e8]
   refine loop_constH (.row (.slice none 0 0) 22 1 (cat lpc ([]:List (Lp Int))) :: HO.cells bs 198 (staC c b r.cell (.slice aD c.depth.length cD) (.slice aT c.tide.length cT) (.slice aS c.swell.length cS) (.slice (some ⟨b1',0,none⟩) c.tide.length c.tide.length) (.slice ac c.tide.length cc) (.slice none 0 0)) :: DF2) ?_ [(30,34),(170,202)] (fun q:Nat × Option Addr × Nat=>[(170,I q.1)])
    (fun q H1=>q.1 ≤ c.depth.length ∧ ∃ pn DN,pn.map Prod.fst = (nearL c).take q.1 ∧ (q.2.1 = none → pn = []) ∧ H1 = .row (.slice q.2.1 q.1 q.2.2) 22 1 (cat lpc (pn:List (Lp Int))) :: HO.cells bs 198 (staC c b r.cell (.slice aD c.depth.length cD) (.slice aT c.tide.length cT) (.slice aS c.swell.length cS) (.slice (some ⟨b1',0,none⟩) c.tide.length c.tide.length) (.slice ac c.tide.length cc) (.slice q.2.1 q.1 q.2.2)) :: DN ∧ (∀ h ∈ DF2,h ∈ DN) ∧ ∀ p ∈ pn,HO.row (lpv p) 3 1 (ints p.1) ∈ DN) (fun q=>c.depth.length - q.1) (0,none,0) ?_ ⟨Nat.zero_le _,[],DF2,rfl,fun _=>rfl,rfl,fun h hh=>hh,fun p hp=>by cases hp⟩ ?_
   ·subst hDF2
    exact (HImp.nilRow _ _ _ _).trans (HImp.perm (List.Perm.cons _ (List.Perm.swap _ _ _)))
   ·simp (config := { maxSteps := 4000000 }) only [↓sxw,sxw,tf74,sxu,sxl,sxm,simprocAttr]
    try simp
   rintro ⟨k,an,cn⟩ H3 g3 hinv3
   simp only [] at hinv3
   obtain ⟨hk,pn,DN,hpn,hnil3,rfl,hD2,hDN⟩:=hinv3
   by_cases hkn:k = c.depth.length
   ·subst hkn
    have e10:((c.depth.length:Int) < (c.depth.length:Int)) = False:=eq_false (by omega)
    rw [List.take_of_length_le (by unfold nearL; rw [List.length_map,List.length_range]; exact Nat.le_refl _)] at hpn
    have hLN2:=hLN (.row (.slice an c.depth.length cn) 22 1 (cat lpc (pn:List (Lp Int))) :: HO.cells bs 198 (staC c b r.cell (.slice aD c.depth.length cD) (.slice aT c.tide.length cT) (.slice aS c.swell.length cS) (.slice (some ⟨b1',0,none⟩) c.tide.length c.tide.length) (.slice ac c.tide.length cc) (.slice an c.depth.length cn)) :: DN) (fun h hh=>List.mem_cons_of_mem _ (List.mem_cons_of_mem _ (hD2 h hh)))
    refine ⟨?_⟩
    simp (config := { maxSteps := 4000000 }) only [↓sxw,sxw,tf74,sxu,sxl,sxm,simprocAttr,e10]
    exact .inr ⟨bs,rfl,_,_,_,_,_,_,rfl,List.mem_cons_of_mem _ List.mem_cons_self,hLN2.1,hLN2.2,pn,hpn,List.mem_cons_self,fun p hp=>List.mem_cons_of_mem _ (List.mem_cons_of_mem _ (hDN p hp))⟩
   have e10:((k:Int) < (c.depth.length:Int)) = True:=eq_true (by omega)
   have e11:wr (k + 1) = ((k + 1:Nat):Int):=(wrap_id (by omega)).trans (by omega)
   have hpl:pn.length = k:=by
    have:=congrArg List.length hpn
    rw [List.length_map,List.length_take] at this
    unfold nearL at this
    rw [List.length_map,List.length_range] at this
    omega
   refine ⟨?_⟩
   simp (config := { maxSteps := 4000000 }) only [↓sxw,sxw,tf74,sxu,sxl,sxm,simprocAttr,e10]
   intro b5
   refine loop_constH (HO.row (.slice (some ⟨b5,0,none⟩) 1 1) 3 1 (ints (nts (k :: besL c.W c.H k 0))) :: .row (.slice an k cn) 22 1 (cat lpc (pn:List (Lp Int))) :: HO.cells bs 198 (staC c b r.cell (.slice aD c.depth.length cD) (.slice aT c.tide.length cT) (.slice aS c.swell.length cS) (.slice (some ⟨b1',0,none⟩) c.tide.length c.tide.length) (.slice ac c.tide.length cc) (.slice an k cn)) :: DN) (HImp.refl _ _) [(31,34),(175,191)] (fun q:Nat × Addr × Nat=>[(31,.slice (some q.2.1) (nts (k :: besL c.W c.H k q.1)).length q.2.2),(175,I q.1)])
    (fun q H1=>q.1 ≤ 6 ∧ H1 = HO.row (.slice (some q.2.1) (nts (k :: besL c.W c.H k q.1)).length q.2.2) 3 1 (ints (nts (k :: besL c.W c.H k q.1))) :: .row (.slice an k cn) 22 1 (cat lpc (pn:List (Lp Int))) :: HO.cells bs 198 (staC c b r.cell (.slice aD c.depth.length cD) (.slice aT c.tide.length cT) (.slice aS c.swell.length cS) (.slice (some ⟨b1',0,none⟩) c.tide.length c.tide.length) (.slice ac c.tide.length cc) (.slice an k cn)) :: DN) (fun q=>6 - q.1) (0,⟨b5,0,none⟩,1) ?_ ⟨Nat.zero_le _,rfl⟩ ?_
   ·simp (config := { maxSteps := 4000000 }) only [↓sxw,sxw,tf74,sxu,sxl,sxm,simprocAttr]
    simp [besL,nts]
   rintro ⟨d,al,cl⟩ H4 g4 hinv4
   simp only [] at hinv4
   obtain ⟨hd,rfl⟩:=hinv4
   by_cases hdn:d = 6
   ·subst hdn
    have hpn2:(pn ++ [((nts (nbL c.W c.H k),some al,(nts (k :: besL c.W c.H k 6)).length,cl):Lp Int)]).map Prod.fst = (nearL c).take (k + 1):=by
     have hn:(nearL c)[k]? = some (nts (nbL c.W c.H k)):=by
      unfold nearL
      rw [List.getElem?_map,List.getElem?_range (by omega)]
      try rfl
     rw [List.map_append,hpn,List.take_add_one,hn]
     try rfl
    have e12:(((6:Nat):Int) < 6) = False:=eq_false (by omega)
    refine ⟨?_⟩
    simp (config := { maxSteps := 4000000 }) only [↓sxw,sxw,tf74,sxu,sxl,sxm,simprocAttr,e12]
    refine ld_cella (T:=198) (cs:=(staC c b r.cell (.slice aD c.depth.length cD) (.slice aT c.tide.length cT) (.slice aS c.swell.length cS) (.slice (some ⟨b1',0,none⟩) c.tide.length c.tide.length) (.slice ac c.tide.length cc) (.slice an k cn))) (List.mem_cons_of_mem _ (List.mem_cons_of_mem _ List.mem_cons_self)) rfl ?_
    simp (config := { maxSteps := 4000000 }) only [↓sxw,sxw,tf74,sxu,sxl,sxm,simprocAttr]
    intro b6
    refine app_one (f:=lpc) (l:=pn) ((nts (nbL c.W c.H k),some al,(nts (k :: besL c.W c.H k 6)).length,cl):Lp Int) (HImp.swap _ _ _ _) lpc_len lpc_one (by omega) fun a7 c7=>?_
    rw [hpl]
    simp (config := { maxSteps := 4000000 }) only [↓sxw,sxw,tf74,sxu,sxl,sxm,simprocAttr]
    refine wr_cella (A:=[_,_]) (cs:=(staC c b r.cell (.slice aD c.depth.length cD) (.slice aT c.tide.length cT) (.slice aS c.swell.length cS) (.slice (some ⟨b1',0,none⟩) c.tide.length c.tide.length) (.slice ac c.tide.length cc) (.slice an k cn))) rfl (by simp [staC]) ?_
    simp (config := { maxSteps := 4000000 }) only [↓sxw,sxw,tf74,sxu,sxl,sxm,simprocAttr,e11]
    exact ⟨(k + 1,some a7,c7),_,rfl,HImp.perm (List.Perm.cons _ (List.Perm.swap _ _ _)),⟨by simp only []; omega,_,_ :: DN,hpn2,fun h=>(by cases h),rfl,fun h hh=>List.mem_cons_of_mem _ (hD2 h hh),fun p hp=>by
     rcases List.mem_append.1 hp with h | h
     ·exact List.mem_cons_of_mem _ (hDN p h)
     ·rw [List.mem_singleton] at h
      subst h
      exact List.mem_cons_self⟩,by first | omega | (simp only []; omega)⟩
   have e12:((d:Int) < 6) = True:=eq_true (by omega)
   have e13:wr (d + 1) = ((d + 1:Nat):Int):=(wrap_id (by omega)).trans (by omega)
   have hf:=hnx hok' (show k < c.depth.length by omega) (show d < 6 by omega)
   have hbs:=besL_succ c.W c.H k d
   have hbl:=nbL_len c.W c.H k
   cases hb:bes c.W c.H k d with
   | none=>
    rw [hb] at hf hbs
    rw [Option.toList_none,List.append_nil] at hbs
    refine ⟨?_⟩
    simp (config := { maxSteps := 4000000 }) only [↓sxw,sxw,tf74,sxu,sxl,sxm,simprocAttr,e12,hf,e13]
    exact ⟨(d + 1,al,cl),_,by simp only []; rw [hbs]; exact ⟨rfl,trivial⟩,HImp.refl _ _,⟨by simp only []; omega,by simp only []; rw [hbs]⟩,by simp only []; omega⟩
   | some m=>
    rw [hb] at hf hbs
    have hns:nts (k :: besL c.W c.H k d) ++ [(m:Int)] = nts (k :: besL c.W c.H k (d + 1)):=by
     rw [hbs]
     unfold nts
     try simp
    have hnl:(nts (k :: besL c.W c.H k d)).length ≤ 100:=by
     have h1:=List.length_filterMap_le (bes c.W c.H k) (List.range d)
     rw [List.length_range] at h1
     unfold nts besL
     rw [List.length_map,List.length_cons]
     omega
    have hnl2:(nts (k :: besL c.W c.H k d)).length + 1 = (nts (k :: besL c.W c.H k (d + 1))).length:=by rw [← hns,List.length_append,List.length_singleton]
    refine ⟨?_⟩
    simp (config := { maxSteps := 4000000 }) only [↓sxw,sxw,tf74,sxu,sxl,sxm,simprocAttr,e12,hf]
    intro b6
    refine app_one (f:=i1) (l:=nts (k :: besL c.W c.H k d)) (m:Int) (HImp.refl _ _) i1_len i1_one (by omega) fun a7 c7=>?_
    rw [hns,hnl2]
    simp (config := { maxSteps := 4000000 }) only [↓sxw,sxw,tf74,sxu,sxl,sxm,simprocAttr,e13]
    exact ⟨(d + 1,a7,c7),_,⟨rfl,rfl⟩,HImp.refl _ _,⟨by simp only []; omega,rfl⟩,by simp only []; omega⟩
  have e8:((t2:Int) < (c.tide.length:Int)) = True:=eq_true (by omega)
  have e9:wr (t2 + 1) = ((t2 + 1:Nat):Int):=(wrap_id (by omega)).trans (by omega)
  have hdl:c.depth.length ≤ 200:=hsm.1
  have hsw:=getD_at (show t2 < c.swell.length by omega) 0
  have hg:=((clsB_iff b).1 hcl).1
  have hpl:ps.length = t2:=by
   have:=congrArg List.length hps
   rw [List.length_map,List.length_take] at this
   unfold canL at this
   rw [List.length_map,List.length_range] at this
   omega
  refine ⟨?_⟩
  simp (config := { maxSteps := 4000000 }) only [↓sxw,sxw,tf74,sxu,sxl,sxm,simprocAttr,e8]
  refine ⟨by omega,by omega,by omega,fun b2=>?_⟩
  refine loop_constH (HO.row (.slice (some ⟨b2,0,none⟩) c.depth.length c.depth.length) 4 1 (bools (List.replicate c.depth.length false)) :: .row (.slice ac t2 cc) 194 1 (cat lpc (ps:List (Lp Bool))) :: HO.cells bs 198 (staC c b r.cell (.slice aD c.depth.length cD) (.slice aT c.tide.length cT) (.slice aS c.swell.length cS) (.slice (some ⟨b1',0,none⟩) c.tide.length c.tide.length) (.slice ac t2 cc) (.slice none 0 0)) :: DF) (by rw [show bools (List.replicate c.depth.length false) = zerosL c.depth.length [Value.bool false] from (zeros_cat b1 false _).symm]; exact HImp.refl _ _) [(26,29),(128,155)] (fun q:Nat × List Bool=>[(128,I q.1)])
   (fun q H1=>q.1 ≤ c.depth.length ∧ isF q.2 c.depth.length (fun x=>decide (x < q.1) && canB c b t2 x) ∧ H1 = HO.row (.slice (some ⟨b2,0,none⟩) c.depth.length c.depth.length) 4 1 (bools q.2) :: .row (.slice ac t2 cc) 194 1 (cat lpc (ps:List (Lp Bool))) :: HO.cells bs 198 (staC c b r.cell (.slice aD c.depth.length cD) (.slice aT c.tide.length cT) (.slice aS c.swell.length cS) (.slice (some ⟨b1',0,none⟩) c.tide.length c.tide.length) (.slice ac t2 cc) (.slice none 0 0)) :: DF) (fun q=>c.depth.length - q.1) (0,List.replicate c.depth.length false) ?_ ⟨Nat.zero_le _,(isF.rep _).congr fun u _=>by simp,rfl⟩ ?_
  ·simp (config := { maxSteps := 4000000 }) only [↓sxw,sxw,tf74,sxu,sxl,sxm,simprocAttr]
   try simp
  rintro ⟨k,Y⟩ H3 g3 hinv3
  simp only [] at hinv3
  obtain ⟨hk,hY,rfl⟩:=hinv3
  have hYl:=hY.1
  by_cases hkn:k = c.depth.length
  ·have e10:((k:Int) < (c.depth.length:Int)) = False:=eq_false (by omega)
   have hYe:Y = canT c b t2:=(hY.congr fun u hu=>by rw [decide_eq_true (show u < k by omega),Bool.true_and]).eq
   have hps2:(ps ++ [((canT c b t2,some ⟨b2,0,none⟩,c.depth.length,c.depth.length):Lp Bool)]).map Prod.fst = (canL c b).take (t2 + 1):=by
    have hn:(canL c b)[t2]? = some (canT c b t2):=by
     unfold canL
     rw [List.getElem?_map,List.getElem?_range (by omega)]
     try rfl
    rw [List.map_append,hps,List.take_add_one,hn]
    try rfl
   rw [hYe]
   refine ⟨?_⟩
   simp (config := { maxSteps := 4000000 }) only [↓sxw,sxw,tf74,sxu,sxl,sxm,simprocAttr,e10]
   refine ld_cella (T:=198) (cs:=(staC c b r.cell (.slice aD c.depth.length cD) (.slice aT c.tide.length cT) (.slice aS c.swell.length cS) (.slice (some ⟨b1',0,none⟩) c.tide.length c.tide.length) (.slice ac t2 cc) (.slice none 0 0))) (by simp) rfl ?_
   simp (config := { maxSteps := 4000000 }) only [↓sxw,sxw,tf74,sxu,sxl,sxm,simprocAttr]
   intro b3
   refine app_one (f:=lpc) (l:=ps) ((canT c b t2,some ⟨b2,0,none⟩,c.depth.length,c.depth.length):Lp Bool) (HImp.swap _ _ _ _) lpc_len lpc_one (by omega) fun a3 c3=>?_
   rw [hpl]
   simp (config := { maxSteps := 4000000 }) only [↓sxw,sxw,tf74,sxu,sxl,sxm,simprocAttr]
   refine wr_cella (A:=[_,_]) (cs:=(staC c b r.cell (.slice aD c.depth.length cD) (.slice aT c.tide.length cT) (.slice aS c.swell.length cS) (.slice (some ⟨b1',0,none⟩) c.tide.length c.tide.length) (.slice ac t2 cc) (.slice none 0 0))) rfl (by simp [staC]) ?_
   simp (config := { maxSteps := 4000000 }) only [↓sxw,sxw,tf74,sxu,sxl,sxm,simprocAttr,e9]
   exact ⟨(t2 + 1,some a3,c3),_,rfl,HImp.perm (List.Perm.cons _ (List.Perm.swap _ _ _)),⟨by simp only []; omega,_,_ :: DF,hps2,fun h=>(by cases h),rfl,List.mem_cons_of_mem _ hrd,fun p hp=>by
    rcases List.mem_append.1 hp with h | h
    ·exact List.mem_cons_of_mem _ (hDF p h)
    ·rw [List.mem_singleton] at h
     subst h
     exact List.mem_cons_self⟩,by first | omega | (simp only []; omega)⟩
  have e10:((k:Int) < (c.depth.length:Int)) = True:=eq_true (by omega)
  have e11:wr (k + 1) = ((k + 1:Nat):Int):=(wrap_id (by omega)).trans (by omega)
  have hf:=hfl hok' hg (show k < c.depth.length by omega) (show t2 < c.tide.length by omega)
  have hcn:canB c b t2 k = (decide (c.over k t2 (c.tlo t2) ≥ b.draught) && decide (c.swl t2 ≤ b.seas)):=rfl
  obtain ⟨fl,hfe⟩:∃ fl,decide (c.over k t2 (c.tlo t2) ≥ b.draught) = fl:=⟨_,rfl⟩
  obtain ⟨fm,hfm⟩:∃ fl,decide (c.over k t2 (c.thi t2) ≥ b.draught) = fl:=⟨_,rfl⟩
  rw [hfe,hfm] at hf
  rw [hfe] at hcn
  have hnx2:∀ x,x < c.depth.length → x ≠ k → (decide (x < k) && canB c b t2 x) = (decide (x < k + 1) && canB c b t2 x):=fun x hx hne=>by
   have:decide (x < k) = decide (x < k + 1):=by
    rw [Bool.eq_iff_iff]
    simp only [decide_eq_true_eq]
    omega
   rw [this]
  cases fl with
  | false=>
   refine ⟨?_⟩
   simp (config := { maxSteps := 4000000 }) only [↓sxw,sxw,tf74,sxu,sxl,sxm,simprocAttr,e10,hf]
   refine ⟨by omega,_,rfl,?_⟩
   refine wr_at (A:=[]) (f:=b1) (u:=false) rfl b1_len (by omega) (by omega) ?_
   simp (config := { maxSteps := 4000000 }) only [↓sxw,sxw,tf74,sxu,sxl,sxm,simprocAttr,e11]
   exact ⟨(k + 1,Y.set k false),_,rfl,HImp.refl _ _,⟨by simp only []; omega,hY.set (by omega) (by rw [hcn]; simp) hnx2,rfl⟩,by simp only []; omega⟩
  | true=>
   refine ⟨?_⟩
   simp (config := { maxSteps := 4000000 }) only [↓sxw,sxw,tf74,sxu,sxl,sxm,simprocAttr,e10,hf]
   refine at_1 (hrS _) i1_len hsw rfl fun ad2=>?_
   simp (config := { maxSteps := 4000000 }) only [↓sxw,sxw,tf74,sxu,sxl,sxm,simprocAttr]
   refine ⟨by omega,by omega,_,rfl,?_⟩
   refine wr_at (A:=[]) (f:=b1) (u:=decide (c.swl t2 ≤ b.seas)) rfl b1_len (by omega) (by omega) ?_
   simp (config := { maxSteps := 4000000 }) only [↓sxw,sxw,tf74,sxu,sxl,sxm,simprocAttr,e11]
   exact ⟨(k + 1,Y.set k (decide (c.swl t2 ≤ b.seas))),_,rfl,HImp.refl _ _,⟨by simp only []; omega,hY.set (by omega) (by rw [hcn]; simp) hnx2,rfl⟩,by simp only []; omega⟩
 have e7:((j:Int) < (S.length:Int)) = True:=eq_true (by omega)
 have e2:wr (j + 1) = ((j + 1:Nat):Int):=(wrap_id (by omega)).trans (by omega)
 have hjl:j < S.length:=by omega
 have hu:=List.getElem?_eq_getElem hjl
 have htk:S.take (j + 1) = S.take j ++ [S[j]]:=(List.take_append_getElem hjl).symm
 have hp:=hS1 j _ hu
 obtain ⟨p,hpe⟩:∃ p,S[j] = p:=⟨_,rfl⟩
 rw [hpe] at hu hp htk
 obtain ⟨lo,hi⟩:=p
 obtain ⟨LO,rfl⟩:∃ L:Nat,lo = L:=⟨lo.toNat,by have:=hp.1; simp only [] at this; omega⟩
 obtain ⟨HI,rfl⟩:∃ L:Nat,hi = L:=⟨hi.toNat,by have:=hp.1; have:=hp.2.1; simp only [] at *; omega⟩
 have hp1:LO ≤ HI ∧ HI < c.tide.length:=by have h1:=hp.2.1; have h2:=hp.2.2.1; simp only [] at h1 h2; omega
 refine ⟨?_⟩
 simp (config := { maxSteps := 4000000 }) only [↓sxw,sxw,tf74,sxu,sxl,sxm,simprocAttr,e7]
 refine amid (at_n (hrx _ (by simp +contextual)) spc_len (by omega) hu fun ad1=>?_)
 unfold spc
 simp (config := { maxSteps := 4000000 }) only [↓sxw,sxw,tf74,sxu,sxl,sxm,simprocAttr]
 intro bw
 refine wr_cell (A:=[]) rfl (by simp) ?_
 simp (config := { maxSteps := 4000000 }) only [↓sxw,sxw,tf74,sxu,sxl,sxm,simprocAttr,List.take,List.drop,List.length_cons,List.length_nil,List.nil_append]
 refine ld_cella (T:=49) (cs:=[I LO,I HI]) (by simp) rfl ?_
 simp (config := { maxSteps := 4000000 }) only [↓sxw,sxw,tf74,sxu,sxl,sxm,simprocAttr]
 refine loop_constH (HO.row (.slice (some ⟨b1',0,none⟩) c.tide.length c.tide.length) 4 1 (bools X) :: HO.cells bs 198 (staC c b r.cell (.slice aD c.depth.length cD) (.slice aT c.tide.length cT) (.slice aS c.swell.length cS) (.slice (some ⟨b1',0,none⟩) c.tide.length c.tide.length) (.slice none 0 0) (.slice none 0 0)) :: HO.cells bw 49 [I LO,I HI] :: N2) (HImp.perm (List.Perm.trans (List.Perm.swap _ _ _) (List.Perm.cons _ (List.Perm.swap _ _ _)))) [(23,23),(95,114)] (fun q:Nat × List Bool=>[(23,I q.1)])
  (fun q H1=>LO ≤ q.1 ∧ q.1 ≤ HI + 1 ∧ isF q.2 c.tide.length (fun u=>((S.take j).any (inW u) || (decide (LO ≤ u) && decide (u < q.1))) && decide (c.swl u ≤ b.seas)) ∧ H1 = HO.row (.slice (some ⟨b1',0,none⟩) c.tide.length c.tide.length) 4 1 (bools q.2) :: HO.cells bs 198 (staC c b r.cell (.slice aD c.depth.length cD) (.slice aT c.tide.length cT) (.slice aS c.swell.length cS) (.slice (some ⟨b1',0,none⟩) c.tide.length c.tide.length) (.slice none 0 0) (.slice none 0 0)) :: HO.cells bw 49 [I LO,I HI] :: N2) (fun q=>HI + 1 - q.1) (LO,X) ?_ ⟨Nat.le_refl _,by omega,hX.congr fun u _=>by
  have:(decide (LO ≤ u) && decide (u < LO)) = false:=by
   rw [Bool.and_eq_false_iff]
   simp only [decide_eq_false_iff_not]
   omega
  simp only [this,Bool.or_false],rfl⟩ ?_
 ·simp (config := { maxSteps := 4000000 }) only [↓sxw,sxw,tf74,sxu,sxl,sxm,simprocAttr]
  try simp
 rintro ⟨u,Y⟩ H2 g2 hinv2
 simp only [] at hinv2
 obtain ⟨hu1,hu2,hY,rfl⟩:=hinv2
 have hYl:=hY.1
 by_cases huh:u = HI + 1
 ·have e8:((u:Int) ≤ (HI:Int)) = False:=eq_false (by omega)
  refine ⟨?_⟩
  simp (config := { maxSteps := 4000000 }) only [↓sxw,sxw,tf74,sxu,sxl,sxm,simprocAttr]
  refine ld_cella (T:=49) (cs:=[I LO,I HI]) (by simp) rfl ?_
  simp (config := { maxSteps := 4000000 }) only [↓sxw,sxw,tf74,sxu,sxl,sxm,simprocAttr,e8,e2]
  refine ⟨(j + 1,Y),_,rfl,HImp.sub (((List.Sublist.refl N2).cons _).cons_cons _ |>.cons_cons _),⟨by simp only []; omega,hY.congr fun x hx=>?_,rfl⟩,by simp only []; omega⟩
  simp only []
  rw [htk,List.any_append,List.any_cons,List.any_nil,Bool.or_false]
  congr 2
  unfold inW
  rw [Bool.eq_iff_iff]
  simp only [Bool.and_eq_true,decide_eq_true_eq]
  omega
 have e8:((u:Int) ≤ (HI:Int)) = True:=eq_true (by omega)
 have e9:wr (u + 1) = ((u + 1:Nat):Int):=(wrap_id (by omega)).trans (by omega)
 have hsw:=getD_at (show u < c.swell.length by omega) 0
 refine ⟨?_⟩
 simp (config := { maxSteps := 4000000 }) only [↓sxw,sxw,tf74,sxu,sxl,sxm,simprocAttr]
 refine ld_cella (T:=49) (cs:=[I LO,I HI]) (by simp) rfl ?_
 simp (config := { maxSteps := 4000000 }) only [↓sxw,sxw,tf74,sxu,sxl,sxm,simprocAttr,e8]
 refine ld_cella (T:=198) (cs:=staC c b r.cell (.slice aD c.depth.length cD) (.slice aT c.tide.length cT) (.slice aS c.swell.length cS) (.slice (some ⟨b1',0,none⟩) c.tide.length c.tide.length) (.slice none 0 0) (.slice none 0 0)) (by simp) rfl ?_
 simp (config := { maxSteps := 4000000 }) only [↓sxw,sxw,tf74,sxu,sxl,sxm,simprocAttr]
 refine at_1 (hrS _) i1_len hsw rfl fun ad2=>?_
 simp (config := { maxSteps := 4000000 }) only [↓sxw,sxw,tf74,sxu,sxl,sxm,simprocAttr]
 refine ⟨by omega,by omega,_,rfl,?_⟩
 refine wr_at (A:=[]) (f:=b1) (u:=decide (c.swl u ≤ b.seas)) rfl b1_len (by omega) (by omega) ?_
 simp (config := { maxSteps := 4000000 }) only [↓sxw,sxw,tf74,sxu,sxl,sxm,simprocAttr,e9]
 exact ⟨(u + 1,Y.set u (decide (c.swl u ≤ b.seas))),_,rfl,HImp.refl _ _,⟨by simp only []; omega,by simp only []; omega,hY.set (by omega) (by simp only [decide_eq_true (show LO ≤ u by omega),decide_eq_true (show u < u + 1 by omega),Bool.and_self,Bool.or_true,Bool.true_and]) (fun x hx hne=>by
  have:decide (x < u) = decide (x < u + 1):=by
   rw [Bool.eq_iff_iff]
   simp only [decide_eq_true_eq]
   omega
  simp only [this]),rfl⟩,by simp only []; omega⟩
end Go.Proofs.YtljpknnhimkkjaaGreatDoor

namespace Go.Proofs.YtljpknnhimkkjaaGreatDoor
open Go.RowKit Go.SX
set_option maxRecDepth 10000
set_option maxHeartbeats 0
set_option linter.unusedSimpArgs false
set_option linter.unusedVariables false
def slq (q:Option Addr × Nat × Nat):List Value:=[.slice q.1 q.2.1 q.2.2]
theorem slq_len (q:Option Addr × Nat × Nat):(slq q).length = 1:=rfl
theorem LLOk.at {α:Type} {f:α → List Value} {sz:Nat} {w:World} {v:Value} {cs:List (List α)} (h:LLOk f sz w v cs):∃ vs:List (Option Addr × Nat × Nat),vs.length = cs.length ∧ Sl w v 1 (cat slq vs) ∧ ∀ (i:Nat) l,cs[i]? = some l → ∃ q,vs[i]? = some q ∧ Sl w (.slice q.1 q.2.1 q.2.2) sz (cat f l):=by
 obtain ⟨ps,rfl,h2,h3⟩:=h
 have he:cat lpc ps = cat slq (ps.map Prod.snd):=by
  unfold cat
  rw [List.flatMap_map]
  try rfl
 rw [he] at h2
 refine ⟨ps.map Prod.snd,by rw [List.length_map,List.length_map],h2,fun i l hi=>?_⟩
 rw [List.getElem?_map] at hi
 obtain ⟨p,hp,rfl⟩:=Option.map_eq_some_iff.1 hi
 exact ⟨p.2,by rw [List.getElem?_map,hp]; rfl,h3 p (List.mem_of_getElem? hp)⟩
def nowB (c:Cht) (b:Cls) (k t:Nat):Nat → Nat → Bool
 | 0,x=>decide (x = k)
 | i + 1,x=>canB c b (t + i + 1) x && (List.range c.depth.length).any fun y=>nowB c b k t i y && (nbL c.W c.H y).contains x
def outV (c:Cht) (b:Cls) (k t:Nat):Nat → Nat → Int
 | 0,_=>-1
 | m + 1,x=>if outV c b k t m x < 0 ∧ nowB c b k t m x = true then ((t + m:Nat):Int) else outV c b k t m x
noncomputable def reachL (c:Cht) (b:Cls) (r:Rmp) (t:Nat):List Int:=if rdyB c b r t then (List.range c.depth.length).map (outV c b r.cell.toNat t (c.tide.length - t)) else List.replicate c.depth.length (-1)
def isG (X:List Int) (n:Nat) (p:Nat → Int):Prop:=X.length = n ∧ ∀ u,u < n → X.getD u 0 = p u
theorem isG.eq {X:List Int} {n:Nat} {p:Nat → Int} (h:isG X n p):X = (List.range n).map p:=by
 refine List.ext_getElem? fun i=>?_
 rw [List.getElem?_map]
 have h1:=h.1
 by_cases hi:i < n
 ·rw [List.getElem?_range hi]
  have:=h.2 i hi
  rw [List.getD_eq_getElem?_getD,List.getElem?_eq_getElem (by omega)] at this
  rw [List.getElem?_eq_getElem (by omega)]
  simpa using this
 ·have e1:X[i]? = none:=List.getElem?_eq_none (by omega)
  have e2:(List.range n)[i]? = none:=List.getElem?_eq_none (by rw [List.length_range]; omega)
  rw [e1,e2]
  try rfl
theorem isG.set {X:List Int} {n:Nat} {p q:Nat → Int} {k:Nat} (h:isG X n p) {x:Int} (hk:k < n) (hx:x = q k) (hq:∀ u,u < n → u ≠ k → p u = q u):isG (X.set k x) n q:=by
 refine ⟨by rw [List.length_set]; exact h.1,fun u hu=>?_⟩
 rw [List.getD_eq_getElem?_getD,List.getElem?_set]
 by_cases e:k = u
 ·subst e
  rw [if_pos rfl,if_pos (by rw [h.1]; exact hk),Option.getD_some,hx]
 ·rw [if_neg e,← List.getD_eq_getElem?_getD,h.2 u hu]
  exact hq u hu fun e'=>e e'.symm
theorem isG.congr {X:List Int} {n:Nat} {p q:Nat → Int} (h:isG X n p) (hq:∀ u,u < n → p u = q u):isG X n q:=⟨h.1,fun u hu=>(h.2 u hu).trans (hq u hu)⟩
theorem isG.rep (n:Nat) (x:Int):isG (List.replicate n x) n fun _=>x:=⟨List.length_replicate,fun u hu=>by rw [List.getD_eq_getElem?_getD,List.getElem?_replicate,if_pos hu]; rfl⟩
def nextB (c:Cht) (b:Cls) (t:Nat) (now:Nat → Bool) (y j x:Nat):Bool:=canB c b t x && ((List.range y).any (fun z=>now z && (nbL c.W c.H z).contains x) || (now y && ((nbL c.W c.H y).take j).contains x))
theorem nextB_zero (c:Cht) (b:Cls) (t:Nat) (now:Nat → Bool) (x:Nat):nextB c b t now 0 0 x = false:=by
 unfold nextB
 try simp
theorem nextB_row (c:Cht) (b:Cls) (t:Nat) (now:Nat → Bool) (y x:Nat):nextB c b t now y (nbL c.W c.H y).length x = nextB c b t now (y + 1) 0 x:=by
 unfold nextB
 rw [List.range_succ,List.any_append,List.take_of_length_le (Nat.le_refl _)]
 try simp
theorem nextB_step (c:Cht) (b:Cls) (t:Nat) (now:Nat → Bool) {y j m:Nat} (h:(nbL c.W c.H y)[j]? = some m) (x:Nat):nextB c b t now y (j + 1) x = (nextB c b t now y j x || (decide (x = m) && (now y && canB c b t x))):=by
 unfold nextB
 have:(nbL c.W c.H y).take (j + 1) = (nbL c.W c.H y).take j ++ [m]:=by rw [List.take_add_one,h]; rfl
 rw [this,List.contains_append]
 have h2:([m]:List Nat).contains x = decide (x = m):=by
  rw [Bool.eq_iff_iff]
  try simp
 rw [h2]
 cases canB c b t x <;> cases now y <;> simp [Bool.or_assoc]
theorem nextB_end (c:Cht) (b:Cls) (k t i x:Nat):nextB c b (t + i + 1) (nowB c b k t i) c.depth.length 0 x = nowB c b k t (i + 1) x:=by
 unfold nextB
 rw [nowB]
 try simp
end Go.Proofs.YtljpknnhimkkjaaGreatDoor

namespace Go.Proofs.YtljpknnhimkkjaaGreatDoor
open Go.RowKit Go.SX
set_option maxRecDepth 10000
set_option maxHeartbeats 0
set_option linter.unusedSimpArgs false
set_option linter.unusedVariables false
theorem reach5_fn (w:World) (bs:Nat) (c:Cht) (hok:c.ok) (b:Cls) (r:Rmp) (k:Nat) (hk:k < c.depth.length) (hkr:r.cell = k) (hst:StaOk w bs c b r.cell (rdyL c b r) (canL c b) (nearL c)) (t:Nat) (ht:t < c.tide.length):
  SX.Fn Tryz.prog 75 [.pointer (some ⟨bs,0,none⟩),I t] w (fun _=>False) fun q N=>Got q 3 1 i1 (reachL c b r t) N:=by
 obtain ⟨sD,sT,sS,vr,vc,vn,hcs,hch,hrd,hcn,hnr⟩:=hst
 obtain ⟨sD',sT',sS',he,hsD,hsT,hsS⟩:=hch
 injection he with he
 injection he with he
 simp only [List.cons.injEq,true_and,and_true] at he
 obtain ⟨rfl,rfl,rfl⟩:=he
 obtain ⟨aD,nD,cD,rfl⟩:=hsD.shape
 obtain ⟨aT,nT,cT,rfl⟩:=hsT.shape
 obtain ⟨ar,nr,cr,rfl⟩:=hrd.shape
 obtain ⟨cvs,hcvl,hcvs,hcv⟩:=hcn.at
 obtain ⟨nvs,hnvl,hnvs,hnv⟩:=hnr.at
 obtain ⟨ac,nc,cc,rfl⟩:=hcvs.shape
 obtain ⟨an,nn,cn,rfl⟩:=hnvs.shape
 have hnD:=hsD.le i1_len (by omega)
 have hnT:=hsT.le spc_len (by omega)
 have hnr':=hrd.le b1_len (by omega)
 have hnc:=hcvs.le slq_len (by omega)
 have hnn:=hnvs.le slq_len (by omega)
 have hrl:(rdyL c b r).length = c.tide.length:=by unfold rdyL; rw [List.length_map,List.length_range]
 have hcl:(canL c b).length = c.tide.length:=by unfold canL; rw [List.length_map,List.length_range]
 have hnl:(nearL c).length = c.depth.length:=by unfold nearL; rw [List.length_map,List.length_range]
 rw [hrl] at hnr'
 rw [hcvl,hcl] at hnc
 rw [hnvl,hnl] at hnn
 subst hnD hnT hnr' hnc hnn
 have hrr:=hrd.rd0
 have hrc:=hcvs.rd0
 have hrn:=hnvs.rd0
 have hu:=hok.2.2.2.1
 have h60:=hu.2
 have hdw:=hok.dims
 have h144:c.depth.length < 200:=by have:=hok.dims; obtain ⟨_,_,h1,h2,h3⟩:=this; rw [h3]; exact Nat.lt_of_le_of_lt (Nat.mul_le_mul h1.2 h2.2) (by decide)
 have m2:=hcs 2 _ rfl
 have m3:=hcs 3 _ rfl
 have m12:=hcs 12 _ rfl
 have m13:=hcs 13 _ rfl
 have m14:=hcs 14 _ rfl
 have m15:=hcs 15 _ rfl
 rw [hkr] at m12
 have hrt:(rdyL c b r)[t]? = some (rdyB c b r t):=by unfold rdyL; rw [List.getElem?_map,List.getElem?_range ht]; rfl
 have dn:∀ (g:Nat) (xs:List Value),det0 g xs = none:=fun _ _=>rfl
 have hkn:r.cell.toNat = k:=by omega
 unfold reachL
 rw [hkn]
 refine walk [] [] (det0_ok _ _) Tryz.func75 rfl Tryz.ntmps75 res75 (by kernel_rfl) no_facts ?_
 simp (config := { maxSteps := 4000000 }) only [↓sxw,sxw,tf75,sxu,sxl,sxm,simprocAttr,dn]
 intro bi
 refine ld_olda (by simp [add_block]) m2 id ?_
 simp (config := { maxSteps := 4000000 }) only [↓sxw,sxw,tf75,sxu,sxl,sxm,simprocAttr,dn]
 refine CallOb.pureH (fun w' hp=>repeat_fn w' _ (-1) c.depth.length (row_hp (E:=3) List.mem_cons_self hp) h144 (by omega)) ?_
 rintro q N ⟨bo,rfl,hbo⟩
 cases hrb:rdyB c b r t with
 | false=>
  rw [hrb] at hrt
  refine ⟨?_⟩
  simp (config := { maxSteps := 4000000 }) only [↓sxw,sxw,tf75,sxu,sxl,sxm,simprocAttr]
  refine ld_olda (by simp [add_block]) m13 id ?_
  simp (config := { maxSteps := 4000000 }) only [↓sxw,sxw,tf75,sxu,sxl,sxm,simprocAttr]
  refine at_1 (hrr _) b1_len hrt rfl fun ad1=>?_
  simp (config := { maxSteps := 4000000 }) only [↓sxw,sxw,tf75,sxu,sxl,sxm,simprocAttr]
  exact Got.row (by simp) (List.mem_append_left _ hbo) (fun h=>by cases h)
 | true=>
 rw [hrb] at hrt
 refine ⟨?_⟩
 simp (config := { maxSteps := 4000000 }) only [↓sxw,sxw,tf75,sxu,sxl,sxm,simprocAttr]
 refine ld_olda (by simp [add_block]) m13 id ?_
 simp (config := { maxSteps := 4000000 }) only [↓sxw,sxw,tf75,sxu,sxl,sxm,simprocAttr]
 refine at_1 (hrr _) b1_len hrt rfl fun ad1=>?_
 simp (config := { maxSteps := 4000000 }) only [↓sxw,sxw,tf75,sxu,sxl,sxm,simprocAttr]
 refine ⟨by omega,by omega,by omega,fun bn=>?_⟩
 refine ld_olda (by simp [add_block]) m12 id ?_
 simp (config := { maxSteps := 4000000 }) only [↓sxw,sxw,tf75,sxu,sxl,sxm,simprocAttr]
 refine ⟨by omega,by omega,_,rfl,?_⟩
 rw [show zerosL c.depth.length [Value.bool false] = bools (List.replicate c.depth.length false) from zeros_cat b1 false _]
 refine wr_at (A:=[]) (f:=b1) (u:=true) rfl b1_len (by rw [List.length_replicate]) (by rw [List.length_replicate]; omega) ?_
 simp (config := { maxSteps := 4000000 }) only [↓sxw,sxw,tf75,sxu,sxl,sxm,simprocAttr]
 refine loop_constH (HO.row (.slice (some ⟨bo,0,none⟩) c.depth.length c.depth.length) 3 1 (ints (List.replicate c.depth.length (-1))) :: [HO.row (.slice (some ⟨bn,0,none⟩) c.depth.length c.depth.length) 4 1 (bools ((List.replicate c.depth.length false).set k true))]) ((HImp.cons (HImp.pick (List.mem_append_left _ hbo))).trans (HImp.swap _ _ _ _)) [(4,4),(6,12),(14,14),(42,119)] (fun q:Nat × Addr=>[(6,.slice (some q.2) c.depth.length c.depth.length),(7,I ((t + q.1:Nat):Int))])
  (fun q H1=>t + q.1 < c.tide.length ∧ ∃ X Y,isG X c.depth.length (outV c b k t q.1) ∧ isF Y c.depth.length (nowB c b k t q.1) ∧ H1 = HO.row (.slice (some ⟨bo,0,none⟩) c.depth.length c.depth.length) 3 1 (ints X) :: [HO.row (.slice (some q.2) c.depth.length c.depth.length) 4 1 (bools Y)]) (fun q=>c.tide.length - q.1) (0,⟨bn,0,none⟩) ?_ ⟨by simpa using ht,_,_,isG.rep _ _,(isF.rep _).set hk (by simp [nowB]) (fun u hu hne=>by simp [nowB,hne]),rfl⟩ ?_
 ·simp (config := { maxSteps := 4000000 }) only [↓sxw,sxw,tf75,sxu,sxl,sxm,simprocAttr]
  try simp
 rintro ⟨i,a⟩ H1 g1 hinv
 simp only [] at hinv
 obtain ⟨hi,X,Y,hX,hY,rfl⟩:=hinv
 have hYl:=hY.1
 refine ⟨?_⟩
 simp (config := { maxSteps := 4000000 }) only [↓sxw,sxw,tf75,sxu,sxl,sxm,simprocAttr]
 refine loop_constH _ (HImp.refl _ _) [(8,9),(44,61)] (fun q:Nat × List Int=>[(44,I q.1)])
  (fun q H1=>q.1 ≤ c.depth.length ∧ isG q.2 c.depth.length (fun u=>if u < q.1 then outV c b k t (i + 1) u else outV c b k t i u) ∧ H1 = HO.row (.slice (some ⟨bo,0,none⟩) c.depth.length c.depth.length) 3 1 (ints q.2) :: [HO.row (.slice (some a) c.depth.length c.depth.length) 4 1 (bools Y)]) (fun q=>c.depth.length - q.1) (0,X) ?_ ⟨Nat.zero_le _,hX.congr fun u hu=>by rw [if_neg (by simp)],rfl⟩ ?_
 ·simp (config := { maxSteps := 4000000 }) only [↓sxw,sxw,tf75,sxu,sxl,sxm,simprocAttr]
  try simp
 rintro ⟨x,X2⟩ H2 g2 hinv2
 simp only [] at hinv2
 obtain ⟨hx,hX2,rfl⟩:=hinv2
 have hX2l:=hX2.1
 by_cases hxn:x = c.depth.length
 case neg=>
  have e7:((x:Int) < (c.depth.length:Int)) = True:=eq_true (by omega)
  have e8:wr (x + 1) = ((x + 1:Nat):Int):=(wrap_id (by omega)).trans (by omega)
  have hxl:x < c.depth.length:=by omega
  have hny:Y[x]? = some (nowB c b k t i x):=by rw [getD_at (show x < Y.length by omega) false,hY.2 x hxl]
  have hox:X2[x]? = some (outV c b k t i x):=(getD_at (show x < X2.length by omega) 0).trans (congrArg some ((hX2.2 x hxl).trans (if_neg (by omega))))
  have hro:=row_rdv (w0:=⟨w,fun _=>False⟩) (H:=HO.row (.slice (some ⟨bo,0,none⟩) c.depth.length c.depth.length) 3 1 (ints X2) :: [HO.row (.slice (some a) c.depth.length c.depth.length) 4 1 (bools Y)]) (E:=3) List.mem_cons_self ⟨_,_,_,rfl,by rw [cat_len i1_len,hX2l],fun h=>by cases h⟩
  have hrw:=row_rdv (w0:=⟨w,fun _=>False⟩) (H:=HO.row (.slice (some ⟨bo,0,none⟩) c.depth.length c.depth.length) 3 1 (ints X2) :: [HO.row (.slice (some a) c.depth.length c.depth.length) 4 1 (bools Y)]) (E:=4) (List.mem_cons_of_mem _ List.mem_cons_self) ⟨_,_,_,rfl,by rw [cat_len b1_len,hYl],fun h=>by cases h⟩
  have hlt:∀ u,u ≠ x → (if u < x then outV c b k t (i + 1) u else outV c b k t i u) = (if u < x + 1 then outV c b k t (i + 1) u else outV c b k t i u):=fun u hne=>by
   by_cases h:u < x
   ·rw [if_pos h,if_pos (by omega)]
   ·rw [if_neg h,if_neg (by omega)]
  have hself:∀ v,v = outV c b k t (i + 1) x → v = (if x < x + 1 then outV c b k t (i + 1) x else outV c b k t i x):=fun v h=>by rw [if_pos (by omega),h]
  have hrule:outV c b k t (i + 1) x = if outV c b k t i x < 0 ∧ nowB c b k t i x = true then ((t + i:Nat):Int) else outV c b k t i x:=rfl
  have hsame:∀ (h:outV c b k t (i + 1) x = outV c b k t i x),isG X2 c.depth.length (fun u=>if u < x + 1 then outV c b k t (i + 1) u else outV c b k t i u):=fun h=>hX2.congr fun u hu=>by
   by_cases hux:u = x
   ·subst hux
    rw [if_neg (by omega),if_pos (by omega),h]
   ·exact hlt u hux
  cases hnw:nowB c b k t i x with
  | false=>
   rw [hnw] at hny hrule
   refine ⟨?_⟩
   simp (config := { maxSteps := 4000000 }) only [↓sxw,sxw,tf75,sxu,sxl,sxm,simprocAttr,e7]
   refine amid (at_1 hrw b1_len hny rfl fun ad2=>?_)
   simp (config := { maxSteps := 4000000 }) only [↓sxw,sxw,tf75,sxu,sxl,sxm,simprocAttr,e8]
   exact ⟨(x + 1,X2),_,rfl,HImp.refl _ _,⟨by simp only []; omega,hsame (by rw [hrule]; simp),rfl⟩,by simp only []; omega⟩
  | true=>
   rw [hnw] at hny hrule
   by_cases ho:outV c b k t i x < 0
   ·have p1:(outV c b k t i x < 0) = True:=eq_true ho
    rw [if_pos ⟨ho,rfl⟩] at hrule
    refine ⟨?_⟩
    simp (config := { maxSteps := 4000000 }) only [↓sxw,sxw,tf75,sxu,sxl,sxm,simprocAttr,e7]
    refine amid (at_1 hrw b1_len hny rfl fun ad2=>?_)
    simp (config := { maxSteps := 4000000 }) only [↓sxw,sxw,tf75,sxu,sxl,sxm,simprocAttr]
    refine at_1 hro i1_len hox rfl fun ad3=>?_
    simp (config := { maxSteps := 4000000 }) only [↓sxw,sxw,tf75,sxu,sxl,sxm,simprocAttr,p1]
    refine ⟨by omega,by omega,_,rfl,?_⟩
    refine wr_at (A:=[]) (f:=i1) (u:=((t + i:Nat):Int)) rfl i1_len (by omega) (by omega) ?_
    simp (config := { maxSteps := 4000000 }) only [↓sxw,sxw,tf75,sxu,sxl,sxm,simprocAttr,e8]
    exact ⟨(x + 1,X2.set x ((t + i:Nat):Int)),_,rfl,HImp.refl _ _,⟨by simp only []; omega,hX2.set hxl (hself _ hrule.symm) (fun u _ hne=>hlt u hne),rfl⟩,by simp only []; omega⟩
   ·have p1:(outV c b k t i x < 0) = False:=eq_false ho
    rw [if_neg (fun h=>ho h.1)] at hrule
    refine ⟨?_⟩
    simp (config := { maxSteps := 4000000 }) only [↓sxw,sxw,tf75,sxu,sxl,sxm,simprocAttr,e7]
    refine amid (at_1 hrw b1_len hny rfl fun ad2=>?_)
    simp (config := { maxSteps := 4000000 }) only [↓sxw,sxw,tf75,sxu,sxl,sxm,simprocAttr]
    refine at_1 hro i1_len hox rfl fun ad3=>?_
    simp (config := { maxSteps := 4000000 }) only [↓sxw,sxw,tf75,sxu,sxl,sxm,simprocAttr,p1,e8]
    exact ⟨(x + 1,X2),_,rfl,HImp.refl _ _,⟨by simp only []; omega,hsame hrule,rfl⟩,by simp only []; omega⟩
 subst hxn
 have hXn:isG X2 c.depth.length (outV c b k t (i + 1)):=hX2.congr fun u hu=>by rw [if_pos hu]
 have e7:((c.depth.length:Int) < (c.depth.length:Int)) = False:=eq_false (by omega)
 have e9:wr (((t + i:Nat):Int) + 1) = ((t + (i + 1):Nat):Int):=(wrap_id (by omega)).trans (by omega)
 by_cases hend:t + (i + 1) = c.tide.length
 ·have e10:(((t + (i + 1):Nat):Int) = (c.tide.length:Int)) = True:=eq_true (by omega)
  have hXe:=hXn.eq
  rw [show i + 1 = c.tide.length - t by omega] at hXe
  refine ⟨?_⟩
  simp (config := { maxSteps := 4000000 }) only [↓sxw,sxw,tf75,sxu,sxl,sxm,simprocAttr,e7,e9]
  refine ld_olda (by simp [add_block]) m3 id ?_
  simp (config := { maxSteps := 4000000 }) only [↓sxw,sxw,tf75,sxu,sxl,sxm,simprocAttr,e10]
  rw [hXe]
  exact Got.row (by rw [List.length_map,List.length_range]) List.mem_cons_self (fun h=>by cases h)
 have e10:(((t + (i + 1):Nat):Int) = (c.tide.length:Int)) = False:=eq_false (by omega)
 have hti:t + i + 1 < c.tide.length:=by omega
 have hct:(canL c b)[t + (i + 1)]? = some (canT c b (t + i + 1)):=by
  unfold canL
  rw [List.getElem?_map,List.getElem?_range (by omega)]
  try rfl
 obtain ⟨qc,hqc,hqs⟩:=hcv _ _ hct
 have hql:=hqs.le b1_len (by omega)
 have hqr:=hqs.rd0
 refine ⟨?_⟩
 simp (config := { maxSteps := 4000000 }) only [↓sxw,sxw,tf75,sxu,sxl,sxm,simprocAttr,e7,e9]
 refine ld_olda (by simp [add_block]) m3 id ?_
 simp (config := { maxSteps := 4000000 }) only [↓sxw,sxw,tf75,sxu,sxl,sxm,simprocAttr,e10]
 refine ⟨by omega,by omega,by omega,fun bz=>?_⟩
 refine loop_constH (HO.row (.slice (some ⟨bz,0,none⟩) c.depth.length c.depth.length) 4 1 (bools (List.replicate c.depth.length false)) :: HO.row (.slice (some ⟨bo,0,none⟩) c.depth.length c.depth.length) 3 1 (ints X2) :: [HO.row (.slice (some a) c.depth.length c.depth.length) 4 1 (bools Y)]) (by rw [show bools (List.replicate c.depth.length false) = zerosL c.depth.length [Value.bool false] from (zeros_cat b1 false _).symm]; exact HImp.refl _ _) [(11,12),(14,14),(78,118)] (fun q:Nat × List Bool=>[(78,I q.1)])
  (fun q H1=>q.1 ≤ c.depth.length ∧ isF q.2 c.depth.length (nextB c b (t + i + 1) (nowB c b k t i) q.1 0) ∧ H1 = HO.row (.slice (some ⟨bz,0,none⟩) c.depth.length c.depth.length) 4 1 (bools q.2) :: HO.row (.slice (some ⟨bo,0,none⟩) c.depth.length c.depth.length) 3 1 (ints X2) :: [HO.row (.slice (some a) c.depth.length c.depth.length) 4 1 (bools Y)]) (fun q=>c.depth.length - q.1) (0,List.replicate c.depth.length false) ?_ ⟨Nat.zero_le _,(isF.rep _).congr fun u _=>(nextB_zero c b _ _ u).symm,rfl⟩ ?_
 ·simp (config := { maxSteps := 4000000 }) only [↓sxw,sxw,tf75,sxu,sxl,sxm,simprocAttr]
  try simp
 rintro ⟨y,Z⟩ H3 g3 hinv3
 simp only [] at hinv3
 obtain ⟨hy,hZ,rfl⟩:=hinv3
 by_cases hyn:y = c.depth.length
 ·subst hyn
  refine ⟨?_⟩
  simp (config := { maxSteps := 4000000 }) only [↓sxw,sxw,tf75,sxu,sxl,sxm,simprocAttr,e7]
  exact ⟨(i + 1,⟨bz,0,none⟩),_,⟨rfl,rfl⟩,(HImp.swap _ _ _ _).trans (HImp.sub (((List.nil_sublist _).cons_cons _).cons_cons _)),⟨by simp only []; omega,X2,Z,hXn,hZ.congr fun u hu=>nextB_end c b k t i u,rfl⟩,by simp only []; omega⟩
 have e11:((y:Int) < (c.depth.length:Int)) = True:=eq_true (by omega)
 have e12:wr (y + 1) = ((y + 1:Nat):Int):=(wrap_id (by omega)).trans (by omega)
 have hyl:y < c.depth.length:=by omega
 have hny:Y[y]? = some (nowB c b k t i y):=by rw [getD_at (show y < Y.length by omega) false,hY.2 y hyl]
 have hrw:=row_rdv (w0:=⟨w,fun _=>False⟩) (H:=HO.row (.slice (some ⟨bz,0,none⟩) c.depth.length c.depth.length) 4 1 (bools Z) :: HO.row (.slice (some ⟨bo,0,none⟩) c.depth.length c.depth.length) 3 1 (ints X2) :: [HO.row (.slice (some a) c.depth.length c.depth.length) 4 1 (bools Y)]) (E:=4) (v:=.slice (some a) c.depth.length c.depth.length) (xs:=bools Y) (List.mem_cons_of_mem _ (List.mem_cons_of_mem _ List.mem_cons_self)) ⟨_,_,_,rfl,by rw [cat_len b1_len,hYl],fun h=>by cases h⟩
 have hnt:(nearL c)[y]? = some (nts (nbL c.W c.H y)):=by
  unfold nearL
  rw [List.getElem?_map,List.getElem?_range hyl]
  try rfl
 obtain ⟨qn,hqn,hqns⟩:=hnv _ _ hnt
 have hqnl:=hqns.le i1_len (by omega)
 have hqnr:=hqns.rd0
 have hnl7:=nbL_len c.W c.H y
 have hntl:(nts (nbL c.W c.H y)).length = (nbL c.W c.H y).length:=by unfold nts; rw [List.length_map]
 obtain ⟨qa,ql,qcp⟩:=qn
 simp only [] at hqnl hqnr hqns
 obtain ⟨is,his⟩:∃ is,nowB c b k t i y = is:=⟨_,rfl⟩
 rw [his] at hny
 refine ⟨?_⟩
 simp (config := { maxSteps := 4000000 }) only [↓sxw,sxw,tf75,sxu,sxl,sxm,simprocAttr,e11]
 refine amid (at_1 hrw b1_len hny rfl fun ad2=>?_)
 simp (config := { maxSteps := 4000000 }) only [↓sxw,sxw,tf75,sxu,sxl,sxm,simprocAttr]
 refine ld_olda (by simp [add_block]) m15 id ?_
 simp (config := { maxSteps := 4000000 }) only [↓sxw,sxw,tf75,sxu,sxl,sxm,simprocAttr]
 refine at_1 (hrn _) slq_len hqn rfl fun ad3=>?_
 simp (config := { maxSteps := 4000000 }) only [↓sxw,sxw,tf75,sxu,sxl,sxm,simprocAttr]
 refine loop_constH _ (HImp.refl _ _) [(14,14),(91,117)] (fun q:Nat × List Bool=>[(91,I q.1)])
  (fun q H1=>q.1 ≤ (nbL c.W c.H y).length ∧ isF q.2 c.depth.length (nextB c b (t + i + 1) (nowB c b k t i) y q.1) ∧ H1 = HO.row (.slice (some ⟨bz,0,none⟩) c.depth.length c.depth.length) 4 1 (bools q.2) :: HO.row (.slice (some ⟨bo,0,none⟩) c.depth.length c.depth.length) 3 1 (ints X2) :: [HO.row (.slice (some a) c.depth.length c.depth.length) 4 1 (bools Y)]) (fun q=>(nbL c.W c.H y).length - q.1) (0,Z) ?_ ⟨Nat.zero_le _,hZ,rfl⟩ ?_
 ·simp (config := { maxSteps := 4000000 }) only [↓sxw,sxw,tf75,sxu,sxl,sxm,simprocAttr]
  try simp
 rintro ⟨j,Z2⟩ H4 g4 hinv4
 simp only [] at hinv4
 obtain ⟨hj,hZ2,rfl⟩:=hinv4
 have hZ2l:=hZ2.1
 by_cases hjn:j = (nbL c.W c.H y).length
 ·have e13:((j:Int) < (ql:Int)) = False:=eq_false (by omega)
  refine ⟨?_⟩
  simp (config := { maxSteps := 4000000 }) only [↓sxw,sxw,tf75,sxu,sxl,sxm,simprocAttr,e13,e12]
  exact ⟨(y + 1,Z2),_,rfl,HImp.refl _ _,⟨by simp only []; omega,hZ2.congr fun u hu=>by rw [hjn]; exact nextB_row c b _ _ y u,rfl⟩,by simp only []; omega⟩
 have e13:((j:Int) < (ql:Int)) = True:=eq_true (by omega)
 have e14:wr (j + 1) = ((j + 1:Nat):Int):=(wrap_id (by omega)).trans (by omega)
 have hjl:j < (nbL c.W c.H y).length:=by omega
 have hm:=List.getElem?_eq_getElem hjl
 have hmlt:(nbL c.W c.H y)[j] < c.depth.length:=by
  have:=nbL_lt (W:=c.W) (H:=c.H) (k:=y) (by have:=hok.dims; omega) _ (List.getElem_mem hjl)
  have:=hok.dims
  omega
 obtain ⟨m,hme⟩:∃ m,(nbL c.W c.H y)[j] = m:=⟨_,rfl⟩
 rw [hme] at hm hmlt
 have hmi:(nts (nbL c.W c.H y))[j]? = some (m:Int):=by unfold nts; rw [List.getElem?_map,hm]; rfl
 have hzm:Z2[m]? = some (nextB c b (t + i + 1) (nowB c b k t i) y j m):=by rw [getD_at (show m < Z2.length by omega) false,hZ2.2 m hmlt]
 have hrz:=row_rdv (w0:=⟨w,fun _=>False⟩) (H:=HO.row (.slice (some ⟨bz,0,none⟩) c.depth.length c.depth.length) 4 1 (bools Z2) :: HO.row (.slice (some ⟨bo,0,none⟩) c.depth.length c.depth.length) 3 1 (ints X2) :: [HO.row (.slice (some a) c.depth.length c.depth.length) 4 1 (bools Y)]) (E:=4) List.mem_cons_self ⟨_,_,_,rfl,by rw [cat_len b1_len,hZ2l],fun h=>by cases h⟩
 have hstp:=nextB_step c b (t + i + 1) (nowB c b k t i) hm
 have hoth:∀ u,u < c.depth.length → u ≠ m → nextB c b (t + i + 1) (nowB c b k t i) y j u = nextB c b (t + i + 1) (nowB c b k t i) y (j + 1) u:=fun u _ hne=>by
  rw [hstp u,decide_eq_false hne,Bool.false_and,Bool.or_false]
 have hstm:=hstp m
 rw [decide_eq_true rfl,Bool.true_and,his] at hstm
 cases hz:nextB c b (t + i + 1) (nowB c b k t i) y j m with
 | true=>
  rw [hz] at hzm hstm
  rw [Bool.true_or] at hstm
  refine ⟨?_⟩
  simp (config := { maxSteps := 4000000 }) only [↓sxw,sxw,tf75,sxu,sxl,sxm,simprocAttr,e13]
  refine amid (at_1 (hqnr _) i1_len hmi rfl fun ad4=>?_)
  simp (config := { maxSteps := 4000000 }) only [↓sxw,sxw,tf75,sxu,sxl,sxm,simprocAttr]
  refine at_1 hrz b1_len hzm rfl fun ad5=>?_
  simp (config := { maxSteps := 4000000 }) only [↓sxw,sxw,tf75,sxu,sxl,sxm,simprocAttr]
  refine ⟨by omega,by omega,_,rfl,?_⟩
  refine wr_at (A:=[]) (f:=b1) (u:=true) rfl b1_len (by omega) (by omega) ?_
  simp (config := { maxSteps := 4000000 }) only [↓sxw,sxw,tf75,sxu,sxl,sxm,simprocAttr,e14]
  exact ⟨(j + 1,Z2.set m true),_,rfl,HImp.refl _ _,⟨by simp only []; omega,hZ2.set hmlt hstm.symm hoth,rfl⟩,by simp only []; omega⟩
 | false=>
 rw [hz] at hzm hstm
 rw [Bool.false_or] at hstm
 cases is with
 | false=>
  rw [Bool.false_and] at hstm
  refine ⟨?_⟩
  simp (config := { maxSteps := 4000000 }) only [↓sxw,sxw,tf75,sxu,sxl,sxm,simprocAttr,e13]
  refine amid (at_1 (hqnr _) i1_len hmi rfl fun ad4=>?_)
  simp (config := { maxSteps := 4000000 }) only [↓sxw,sxw,tf75,sxu,sxl,sxm,simprocAttr]
  refine at_1 hrz b1_len hzm rfl fun ad5=>?_
  simp (config := { maxSteps := 4000000 }) only [↓sxw,sxw,tf75,sxu,sxl,sxm,simprocAttr]
  refine ⟨by omega,by omega,_,rfl,?_⟩
  refine wr_at (A:=[]) (f:=b1) (u:=false) rfl b1_len (by omega) (by omega) ?_
  simp (config := { maxSteps := 4000000 }) only [↓sxw,sxw,tf75,sxu,sxl,sxm,simprocAttr,e14]
  exact ⟨(j + 1,Z2.set m false),_,rfl,HImp.refl _ _,⟨by simp only []; omega,hZ2.set hmlt hstm.symm hoth,rfl⟩,by simp only []; omega⟩
 | true=>
  rw [Bool.true_and] at hstm
  have hcm:(canT c b (t + i + 1))[m]? = some (canB c b (t + i + 1) m):=by
   unfold canT
   rw [List.getElem?_map,List.getElem?_range hmlt]
   try rfl
  refine ⟨?_⟩
  simp (config := { maxSteps := 4000000 }) only [↓sxw,sxw,tf75,sxu,sxl,sxm,simprocAttr,e13]
  refine amid (at_1 (hqnr _) i1_len hmi rfl fun ad4=>?_)
  simp (config := { maxSteps := 4000000 }) only [↓sxw,sxw,tf75,sxu,sxl,sxm,simprocAttr]
  refine at_1 hrz b1_len hzm rfl fun ad5=>?_
  simp (config := { maxSteps := 4000000 }) only [↓sxw,sxw,tf75,sxu,sxl,sxm,simprocAttr]
  refine ld_olda (by simp [add_block]) m14 id ?_
  simp (config := { maxSteps := 4000000 }) only [↓sxw,sxw,tf75,sxu,sxl,sxm,simprocAttr]
  refine at_1 (hrc _) slq_len hqc rfl fun ad6=>?_
  simp (config := { maxSteps := 4000000 }) only [↓sxw,sxw,tf75,sxu,sxl,sxm,simprocAttr]
  refine at_1 (hqr _) b1_len hcm rfl fun ad7=>?_
  simp (config := { maxSteps := 4000000 }) only [↓sxw,sxw,tf75,sxu,sxl,sxm,simprocAttr]
  refine ⟨by omega,by omega,_,rfl,?_⟩
  refine wr_at (A:=[]) (f:=b1) (u:=canB c b (t + i + 1) m) rfl b1_len (by omega) (by omega) ?_
  simp (config := { maxSteps := 4000000 }) only [↓sxw,sxw,tf75,sxu,sxl,sxm,simprocAttr,e14]
  exact ⟨(j + 1,Z2.set m (canB c b (t + i + 1) m)),_,rfl,HImp.refl _ _,⟨by simp only []; omega,hZ2.set hmlt hstm.symm hoth,rfl⟩,by simp only []; omega⟩
end Go.Proofs.YtljpknnhimkkjaaGreatDoor

