/- Parts of a proof: the symbolic walk and what it shows of single functions. -/
import Derived.Test.YtljpknnhimkkjaaGreatDoorC1
set_option linter.all false
namespace Go.Proofs.YtljpknnhimkkjaaGreatDoor
open Go.RowKit Go.SX
set_option maxRecDepth 4000
set_option maxHeartbeats 4000000
set_option linter.unusedSimpArgs false
set_option linter.unusedVariables false
theorem cellB_fn (w:World) (b:Nat) (x y:Value) (z1:Option Addr) (n c:Nat) (u v:Value) (h:∀ i v',[x,y,.slice z1 n c,u,v][i]? = some v' → w.cell? ⟨b,i,none⟩ = some v') (hn:n < 1000000) (k:Int):
  SX.Fn Tryz.prog 116 [I k,.pointer (some ⟨b,0,none⟩)] w (fun _=>False) fun r N=>r = .bool (!inB k 0 ((n:Int) - 1)):=by
 have e1:wr ((n:Int) - 1) = n - 1:=wrap_id (by omega)
 refine walk [] [] (detA_ok _ _) Tryz.func116 rfl Tryz.ntmps116 res116 (by kernel_rfl) no_facts ?_
 simp (config := { maxSteps := 4000000 }) only [↓sxw,sxw,tf116,sxu,sxl,sxm,simprocAttr]
 refine ld_old (by rw [add_block]; exact h 2 _ rfl) id ?_
 simp (config := { maxSteps := 4000000 }) only [↓sxw,sxw,tf116,sxu,sxl,sxm,simprocAttr,detA_eq,e1]
theorem tickB_fn (w:World) (b:Nat) (x y:Value) (z1:Option Addr) (n c:Nat) (u v:Value) (h:∀ i v',[x,y,u,.slice z1 n c,v][i]? = some v' → w.cell? ⟨b,i,none⟩ = some v') (hn:n < 1000000) (k:Int):
  SX.Fn Tryz.prog 117 [I k,.pointer (some ⟨b,0,none⟩)] w (fun _=>False) fun r N=>r = .bool (!inB k 0 ((n:Int) - 1)):=by
 have e1:wr ((n:Int) - 1) = n - 1:=wrap_id (by omega)
 refine walk [] [] (detA_ok _ _) Tryz.func117 rfl Tryz.ntmps117 res117 (by kernel_rfl) no_facts ?_
 simp (config := { maxSteps := 4000000 }) only [↓sxw,sxw,tf117,sxu,sxl,sxm,simprocAttr]
 refine ld_old (by rw [add_block]; exact h 3 _ rfl) id ?_
 simp (config := { maxSteps := 4000000 }) only [↓sxw,sxw,tf117,sxu,sxl,sxm,simprocAttr,detA_eq,e1]
theorem draughtB_fn (w:World) (k:Int):SX.Fn Tryz.prog 118 [I k] w (fun _=>False) fun r N=>r = .bool (!inB k 1 100):=by
 refine walk [] [] (detA_ok _ _) Tryz.func118 rfl Tryz.ntmps118 res118 (by kernel_rfl) no_facts ?_
 simp (config := { maxSteps := 4000000 }) only [↓sxw,sxw,tf118,sxu,sxl,sxm,simprocAttr,detA_eq]
def notCell (c:Cht) (k:Int):Bool:=!inB k 0 ((c.depth.length:Int) - 1)
def notTick (c:Cht) (k:Int):Bool:=!inB k 0 ((c.tide.length:Int) - 1)
def notDraught (k:Int):Bool:=!inB k 1 100
noncomputable def openE (c:Cht) (lc lt ld:List Int):Int:=if c.okB then (if lc.any (notCell c) || lt.any (notTick c) || ld.any notDraught then 1 else 0) else 10
theorem cells_old {w0:Base} {H:List HO} {b:Nat} {T:TypeId} {cs:List Value} (h:HO.cells b T cs ∈ H) {w:World} (hp:Hp w0 H w):∀ i v,cs[i]? = some v → w.cell? ⟨b,i,none⟩ = some v:=by
 intro i v hi
 rw [cell_of_cells (hp.ok _ h)]
 simpa using hi
theorem cell_keep {w w':World} {b:Nat} {cs:List Value} (h:∀ i v,cs[i]? = some v → w.cell? ⟨b,i,none⟩ = some v) (hk:Keep (fun _=>False) w w'):∀ i v,cs[i]? = some v → w'.cell? ⟨b,i,none⟩ = some v:=by
 intro i v hi
 have h1:=h i v hi
 have hlt:b < w.heap.size:=by
  by_cases hb:b < w.heap.size
  ·exact hb
  ·unfold World.cell? at h1
   rw [Array.getElem?_eq_none (by simpa using hb)] at h1
   cases h1
 unfold World.cell? at h1 ⊢
 rw [hk.block _ hlt id]
 exact h1
theorem open_fn (w:World) (v sc st sd:Value) (c:Cht) (lc lt ld:List Int) (hc:ChOk w v c) (hsm:c.small) (h1:Sl w sc 1 (ints lc)) (h2:Sl w st 1 (ints lt)) (h3:Sl w sd 1 (ints ld)) (hl:lc.length ≤ 100 ∧ lt.length ≤ 100 ∧ ld.length ≤ 100):
  SX.Fn Tryz.prog 63 [v,.agg #[sc,st,sd]] w (fun _=>False) fun r N=>r = .tuple #[v,I (openE c lc lt ld)]:=by
 have hD:=detM_ok (X:=fun _=>False) hc (fun _ _=>id)
 have hck:=(detM_check (v:=v) hsm).1
 obtain ⟨sD,sT,sS,rfl,hsD,hsT,hsS⟩:=hc
 obtain ⟨aD,nD,cD,rfl⟩:=hsD.shape
 obtain ⟨aT,nT,cT,rfl⟩:=hsT.shape
 obtain ⟨aS,nS,cS,rfl⟩:=hsS.shape
 obtain ⟨a1,n1,c1,rfl⟩:=h1.shape
 obtain ⟨a2,n2,c2,rfl⟩:=h2.shape
 obtain ⟨a3,n3,c3,rfl⟩:=h3.shape
 have hnD:=hsD.le i1_len (by omega)
 have hnT:=hsT.le spc_len (by omega)
 have hsm':=hsm
 unfold Cht.small at hsm'
 have dn:(∀ xs,detM (.agg #[I c.wide,I c.high,.slice aD nD cD,.slice aT nT cT,.slice aS nS cS]) c 114 xs = none):=fun _=>rfl
 refine walk [2] [] hD Tryz.func63 rfl Tryz.ntmps63 res63 (by kernel_rfl) no_facts ?_
 simp (config := { maxSteps := 4000000 }) only [↓sxw,sxw,tf63,sxu,sxl,sxm,simprocAttr]
 intro b
 refine ld_cells [I c.wide,I c.high,.slice aD nD cD,.slice aT nT cT,.slice aS nS cS] List.mem_cons_self rfl rfl ?_
 simp (config := { maxSteps := 4000000 }) only [↓sxw,sxw,tf63,sxu,sxl,sxm,simprocAttr]
 refine ld_cells [I c.wide,I c.high,.slice aD nD cD,.slice aT nT cT,.slice aS nS cS] List.mem_cons_self rfl rfl ?_
 cases hok:c.okB with
 | false=>
  rw [hok] at hck
  simp (config := { maxSteps := 4000000 }) only [↓sxw,sxw,tf63,sxu,sxl,sxm,simprocAttr,hck]
  simp [openE,hok]
 | true=>
  rw [hok] at hck
  simp (config := { maxSteps := 4000000 }) only [↓sxw,sxw,tf63,sxu,sxl,sxm,simprocAttr,hck,dn]
  have hT1:∀ {H w'},HO.cells b 25 [I c.wide,I c.high,.slice aD nD cD,.slice aT nT cT,.slice aS nS cS] ∈ H → Hp ⟨w,fun _=>False⟩ H w' → Tells w' (fun _=>False) vI 116 [.pointer (some ⟨b,0,none⟩)] (notCell c):=fun hm hp=>
   ⟨Tryz.call116,fun w2 hk a=>det_of_fn (by unfold notCell; rw [hnD]; exact cellB_fn w2 b _ _ _ _ _ _ _ (cell_keep (cells_old hm hp) hk) (by omega) a)⟩
  have hT2:∀ {H w'},HO.cells b 25 [I c.wide,I c.high,.slice aD nD cD,.slice aT nT cT,.slice aS nS cS] ∈ H → Hp ⟨w,fun _=>False⟩ H w' → Tells w' (fun _=>False) vI 117 [.pointer (some ⟨b,0,none⟩)] (notTick c):=fun hm hp=>
   ⟨Tryz.call117,fun w2 hk a=>det_of_fn (by unfold notTick; rw [hnT]; exact tickB_fn w2 b _ _ _ _ _ _ _ (cell_keep (cells_old hm hp) hk) (by omega) a)⟩
  have hT3:∀ w',Tells w' (fun _=>False) vI 118 [] notDraught:=fun w'=>⟨Tryz.call118,fun w2 hk a=>det_of_fn (draughtB_fn w2 a)⟩
  refine CallOb.pure (fun w' hp=>containsI_fn w' _ lc _ [.pointer (some ⟨b,0,none⟩)] _ (h1.hp (fun _ _=>id) hp) (by omega) (hT1 (by simp) hp)) ?_
  rintro r N rfl
  cases h6:lc.any (notCell c) with
  | true=>
   simp (config := { maxSteps := 4000000 }) only [↓sxw,sxw,tf63,sxu,sxl,sxm,simprocAttr]
   simp [openE,hok,h6]
  | false=>
   simp (config := { maxSteps := 4000000 }) only [↓sxw,sxw,tf63,sxu,sxl,sxm,simprocAttr,dn]
   refine CallOb.pure (fun w' hp=>containsI_fn w' _ lt _ [.pointer (some ⟨b,0,none⟩)] _ (h2.hp (fun _ _=>id) hp) (by omega) (hT2 (by simp) hp)) ?_
   rintro r N2 rfl
   cases h7:lt.any (notTick c) with
   | true=>
    simp (config := { maxSteps := 4000000 }) only [↓sxw,sxw,tf63,sxu,sxl,sxm,simprocAttr]
    simp [openE,hok,h6,h7]
   | false=>
    simp (config := { maxSteps := 4000000 }) only [↓sxw,sxw,tf63,sxu,sxl,sxm,simprocAttr,dn]
    refine CallOb.pure (fun w' hp=>containsI_fn w' _ ld _ [] _ (h3.hp (fun _ _=>id) hp) (by omega) (hT3 w')) ?_
    rintro r N3 rfl
    cases h8:ld.any notDraught with
    | true=>
     simp (config := { maxSteps := 4000000 }) only [↓sxw,sxw,tf63,sxu,sxl,sxm,simprocAttr]
     simp [openE,hok,h6,h7,h8]
    | false=>
     simp (config := { maxSteps := 4000000 }) only [↓sxw,sxw,tf63,sxu,sxl,sxm,simprocAttr]
     simp [openE,hok,h6,h7,h8]
end Go.Proofs.YtljpknnhimkkjaaGreatDoor

namespace Go.Proofs.YtljpknnhimkkjaaGreatDoor
open Go.RowKit Go.SX
set_option maxRecDepth 4000
set_option linter.unusedSimpArgs false
set_option linter.unusedVariables false
inductive Rc (W H a:Nat):Nat → Nat → Prop
 | zero:Rc W H a 0 a
 | step {n x y:Nat}:Rc W H a n x → y ∈ nbL W H x → Rc W H a (n + 1) y
theorem nb_self (W H k:Nat):k ∈ nbL W H k:=List.mem_cons_self
theorem Rc.mono {W H a n x:Nat} (h:Rc W H a n x):∀ m,n ≤ m → Rc W H a m x:=by
 intro m hm
 induction m with
 | zero=>
  have:n = 0:=by omega
  subst this; exact h
 | succ m ih=>
  by_cases e:n = m + 1
  ·subst e; exact h
  ·exact .step (ih (by omega)) (nb_self _ _ _)
theorem Rc.lt {W H a n x:Nat} (ha:a < W * H) (h:Rc W H a n x):x < W * H:=by
 induction h with
 | zero=>exact ha
 | step _ hy ih=>exact nbL_lt ih _ hy
theorem Rc.trans {W H a b n m x:Nat} (h:Rc W H a n b) (k:Rc W H b m x):Rc W H a (n + m) x:=by
 induction k with
 | zero=>exact h
 | step _ hy ih=>exact .step ih hy
theorem bes_back {W H k d n:Nat} (hk:k < W * H) (hd:d < 6) (h:bes W H k d = some n):bes W H n ((d + 3) % 6) = some k:=by
 have hW:0 < W:=by
  cases W with
  | zero=>simp at hk
  | succ w=>omega
 have hq:k / W < H:=Nat.div_lt_of_lt_mul hk
 have hr:k % W < W:=Nat.mod_lt _ hW
 have hkk:k / W * W + k % W = k:=by rw [Nat.mul_comm]; exact Nat.div_add_mod k W
 unfold bes at h
 simp only [] at h
 generalize k / W = q at *
 generalize k % W = r at *
 generalize hxe:(r:Int) + (if q % 2 = 1 then (wayAt d).2.1 else (wayAt d).1) = x at h
 generalize hye:(q:Int) + (wayAt d).2.2 = y at h
 split at h
 case isFalse=>cases h
 rename_i hc
 simp only [Option.some.injEq] at h
 have hn1:n / W = y.toNat:=by
  rw [← h,Nat.mul_comm,Nat.mul_add_div hW,Nat.div_eq_of_lt (by omega)]
  omega
 have hn2:n % W = x.toNat:=by
  rw [← h,Nat.mul_comm,Nat.mul_add_mod,Nat.mod_eq_of_lt (by omega)]
 unfold bes
 simp only [hn1,hn2]
 have key:(x.toNat:Int) + (if y.toNat % 2 = 1 then (wayAt ((d + 3) % 6)).2.1 else (wayAt ((d + 3) % 6)).1) = r ∧ (y.toNat:Int) + (wayAt ((d + 3) % 6)).2.2 = q:=by
  have:d = 0 ∨ d = 1 ∨ d = 2 ∨ d = 3 ∨ d = 4 ∨ d = 5:=by omega
  rcases this with rfl | rfl | rfl | rfl | rfl | rfl <;> simp [wayAt,ways6] at hxe hye ⊢ <;> (by_cases hp:q % 2 = 1 <;> (try simp [hp] at hxe) <;> (refine ⟨?_,by omega⟩) <;> (try split) <;> omega)
 rw [key.1,key.2,if_pos (by omega)]
 simp only [Int.toNat_natCast,hkk]
theorem nb_symm {W H x y:Nat} (hx:x < W * H) (h:y ∈ nbL W H x):x ∈ nbL W H y:=by
 rcases List.mem_cons.1 h with rfl | h
 ·exact nb_self _ _ _
 ·obtain ⟨d,hd,hb⟩:=List.mem_filterMap.1 h
  rw [List.mem_range] at hd
  exact List.mem_cons_of_mem _ (List.mem_filterMap.2 ⟨(d + 3) % 6,List.mem_range.2 (by omega),bes_back hx hd hb⟩)
theorem Rc.symm {W H a n x:Nat} (ha:a < W * H) (h:Rc W H a n x):Rc W H x n a:=by
 induction h with
 | zero=>exact .zero
 | @step n x y hx hy ih=>
  have:=(Rc.step .zero (nb_symm (hx.lt ha) hy)).trans ih
  rwa [Nat.add_comm] at this
end Go.Proofs.YtljpknnhimkkjaaGreatDoor

namespace Go.Proofs.YtljpknnhimkkjaaGreatDoor
open Go.RowKit Go.SX
set_option maxRecDepth 4000
set_option maxHeartbeats 8000000
set_option linter.unusedSimpArgs false
set_option linter.unusedVariables false
abbrev Cht.W (c:Cht):Nat:=c.wide.toNat
abbrev Cht.H (c:Cht):Nat:=c.high.toNat
theorem Cht.ok.dims {c:Cht} (h:c.ok):c.wide = c.W ∧ c.high = c.H ∧ (1 ≤ c.W ∧ c.W ≤ 12) ∧ (1 ≤ c.H ∧ c.H ≤ 12) ∧ c.depth.length = c.W * c.H:=by
 obtain ⟨⟨a1,a2⟩,⟨b1,b2⟩,h3,_⟩:=h
 have e1:c.wide = c.W:=(Int.toNat_of_nonneg (by omega)).symm
 have e2:c.high = c.H:=(Int.toNat_of_nonneg (by omega)).symm
 refine ⟨e1,e2,by omega,by omega,?_⟩
 rw [e1,e2] at h3
 exact_mod_cast h3
abbrev nts (p:List Nat):List Int:=p.map fun k:Nat=>(k:Int)
theorem openE_zero {c:Cht} {lc lt ld:List Int} (h:openE c lc lt ld = 0):c.ok ∧ (∀ k ∈ lc,0 ≤ k ∧ k.toNat < c.depth.length) ∧ (∀ t ∈ lt,0 ≤ t ∧ t.toNat < c.tide.length) ∧ ∀ g ∈ ld,1 ≤ g ∧ g ≤ 100:=by
 unfold openE at h
 cases hok:c.okB with
 | false=>simp [hok] at h
 | true=>
  rw [hok,if_pos rfl] at h
  split at h
  ·omega
  ·rename_i hn
   simp only [Bool.or_eq_true,not_or,Bool.not_eq_true,List.any_eq_false] at hn
   obtain ⟨⟨h1,h2⟩,h3⟩:=hn
   refine ⟨(okB_iff c).1 hok,fun k hk=>?_,fun t ht=>?_,fun g hg=>?_⟩
   ·have:=h1 k hk
    simp [notCell,inB_iff] at this
    omega
   ·have:=h2 t ht
    simp [notTick,inB_iff] at this
    omega
   ·have:=h3 g hg
    simp [notDraught,inB_iff] at this
    omega
theorem ways_lt {w:World} (h:Ways w):0 < w.heap.size:=by
 have h1:=h 0 _ rfl
 by_cases hb:0 < w.heap.size
 ·exact hb
 ·unfold World.cell? at h1
  rw [Array.getElem?_eq_none (by simpa using hb)] at h1
  cases h1
end Go.Proofs.YtljpknnhimkkjaaGreatDoor

namespace Go.Proofs.YtljpknnhimkkjaaGreatDoor
open Go.RowKit Go.SX
set_option maxRecDepth 4000
set_option maxHeartbeats 8000000
set_option linter.unusedSimpArgs false
set_option linter.unusedVariables false
def lv (l:List Int) (x:Nat):Int:=l.getD x 0
end Go.Proofs.YtljpknnhimkkjaaGreatDoor

namespace Go.Proofs.YtljpknnhimkkjaaGreatDoor
open Go.RowKit Go.SX
set_option maxRecDepth 4000
set_option maxHeartbeats 8000000
set_option linter.unusedSimpArgs false
set_option linter.unusedVariables false
noncomputable def detR (v:Value) (c:Cht):Nat → List Value → Option Value
 | 121,xs=>detN 121 xs
 | 191,xs=>detN 191 xs
 | 54,[.agg ⟨[.int .i64 a,.int .i64 b,_,_,_]⟩,.int .i64 n]=>some (.bool (isCellB a b n))
 | g,xs=>detM v c g xs
theorem detR_ok {v:Value} {c:Cht} {w0:World} {X:Nat → Prop} (hw:Ways w0) (hc:ChOk w0 v c) (hX:∀ b,b < w0.heap.size → ¬ X b):DetFn Tryz.prog ⟨w0,X⟩ (detR v c):=by
 intro g args r h w hk
 unfold detR at h
 split at h
 ·exact detN_ok hw (hX _ (ways_lt hw)) _ _ _ h w hk
 ·exact detN_ok hw (hX _ (ways_lt hw)) _ _ _ h w hk
 ·cases h
  exact det_of_fn (isCell_fn w _ _ _ _ _ _)
 ·exact detM_ok hc hX _ _ _ h w hk
theorem detR_eq (v:Value) (c:Cht):(∀ a b x y z n,detR v c 54 [.agg #[I a,I b,x,y,z],I n] = some (.bool (isCellB a b n))) ∧ (∀ a b x y z,detR v c 50 [.agg #[I a,I b,x,y,z]] = some (I (wr (a * b)))) ∧ (∀ n,detR v c 150 [I n] = some (.bool (inB n 1 100))) ∧
  (∀ a b x ad n c' z t,detR v c 169 [.agg #[I a,I b,x,.slice ad n c',z],I t] = some (.bool (inB t 0 (wr ((n:Int) - 1))))) ∧
  (∀ n l h:Int,detR v c 61 [I n,I l,I h] = some (.bool (inB n l h))) ∧ (∀ n l h:Int,detR v c 103 [I n,I l,I h] = some (.bool (inB n l h))):=⟨fun _ _ _ _ _ _=>rfl,fun _ _ _ _ _=>rfl,fun _=>rfl,fun _ _ _ _ _ _ _ _=>rfl,fun _ _ _=>rfl,fun _ _ _=>rfl⟩
theorem detR_beside (v:Value) (c:Cht) {W H k d:Nat} (hW:1 ≤ W ∧ W ≤ 12) (hH:1 ≤ H ∧ H ≤ 12) (hk:k < W * H) (hd:d < 6) (x y z:Value):
  detR v c 121 [.agg #[I W,I H,x,y,z],I k,I d] = some (besV W H k d) ∧ detR v c 191 [.agg #[I W,I H,x,y,z],I k,I d] = some (besV W H k d):=detN_eq hW hH hk hd x y z
theorem isCell_iff {c:Cht} (hok:c.ok) (n:Int):isCellB c.wide c.high n = !notCell c n:=by
 obtain ⟨eW,eH,hW,hH,hlen⟩:=hok.dims
 have hN:c.W * c.H ≤ 144:=Nat.mul_le_mul hW.2 hH.2
 have e:c.wide * c.high = ((c.depth.length:Nat):Int):=by rw [hok.2.2.1]
 unfold isCellB notCell
 rw [Bool.not_not,e,show wr ((c.depth.length:Nat):Int) = (c.depth.length:Int) from wrap_id (by omega),show wr ((c.depth.length:Int) - 1) = (c.depth.length:Int) - 1 from wrap_id (by omega)]
noncomputable def nextE (c:Cht) (k d:Int):Value:=
 if c.okB then (if notCell c k || !inB d 0 5 then .tuple #[I 0,I 1] else match bes c.W c.H k.toNat d.toNat with
  | some n=>.tuple #[I n,I 0]
  | none=>.tuple #[I 0,I 3]) else .tuple #[I 0,I 10]
end Go.Proofs.YtljpknnhimkkjaaGreatDoor

namespace Go.Proofs.YtljpknnhimkkjaaGreatDoor
open Go.RowKit Go.SX
set_option maxRecDepth 4000
set_option maxHeartbeats 8000000
set_option linter.unusedSimpArgs false
set_option linter.unusedVariables false
theorem openE1 {c:Cht} (a:Int):openE c [a] [] [] = if c.okB then (if notCell c a then 1 else 0) else 10:=by
 unfold openE
 try simp
theorem next1_fn (w:World) (hw:Ways w) (v:Value) (c:Cht) (hc:ChOk w v c) (hsm:c.small) (k d:Int):
  SX.Fn Tryz.prog 132 [v,I k,I d] w (fun _=>False) fun r N=>r = nextE c k d:=by
 have hc0:=hc
 have hD:=detR_ok (X:=fun _=>False) hw hc (fun _ _=>id)
 obtain ⟨sD,sT,sS,rfl,hsD,hsT,hsS⟩:=hc
 obtain ⟨aD,nD,cD,rfl⟩:=hsD.shape
 obtain ⟨aT,nT,cT,rfl⟩:=hsT.shape
 obtain ⟨aS,nS,cS,rfl⟩:=hsS.shape
 have hE:=openE1 (c:=c) k
 unfold nextE
 have dn:(∀ xs,detR (.agg #[I c.wide,I c.high,.slice aD nD cD,.slice aT nT cT,.slice aS nS cS]) c 63 xs = none):=fun _=>rfl
 refine walk [] [] hD Tryz.func132 rfl Tryz.ntmps132 res132 (by kernel_rfl) no_facts ?_
 simp (config := { maxSteps := 4000000 }) only [↓sxw,sxw,tf132,sxu,sxl,sxm,simprocAttr,dn]
 intro b1
 refine CallOb.pure (fun w' hp=>open_fn w' _ _ _ _ c [k] [] [] (hc0.hp hp) hsm (row_hp (E:=3) (xs:=ints [k]) (by simp [cat,i1]) hp) (Sl.nil _ _) (Sl.nil _ _) (by simp)) ?_
 rintro r N rfl
 cases hok:c.okB with
 | false=>
  rw [hok] at hE
  simp only [Bool.false_eq_true,if_false] at hE
  rw [hE]
  simp (config := { maxSteps := 4000000 }) only [↓sxw,sxw,tf132,sxu,sxl,sxm,simprocAttr]
 | true=>
 have hok':=(okB_iff c).1 hok
 rw [hok,if_pos rfl] at hE
 cases h1:notCell c k with
 | true=>
  rw [h1,if_pos rfl] at hE
  rw [hE]
  simp (config := { maxSteps := 4000000 }) only [↓sxw,sxw,tf132,sxu,sxl,sxm,simprocAttr]
 | false=>
 rw [h1] at hE
 simp only [Bool.false_eq_true,if_false] at hE
 rw [hE]
 cases h2:inB d 0 5 with
 | false=>simp (config := { maxSteps := 4000000 }) only [↓sxw,sxw,tf132,sxu,sxl,sxm,simprocAttr,detR_eq,h2]
 | true=>
 obtain ⟨eW,eH,hW,hH,hlen⟩:=hok'.dims
 have hk:0 ≤ k ∧ k ≤ (c.depth.length:Int) - 1:=by
  unfold notCell at h1
  rw [Bool.not_eq_false',inB_iff] at h1
  exact h1
 rw [inB_iff] at h2
 obtain ⟨K,hK⟩:∃ K:Nat,k = K:=⟨k.toNat,by omega⟩
 obtain ⟨D,hD'⟩:∃ D:Nat,d = D:=⟨d.toNat,by omega⟩
 subst hK hD'
 have h2':=(inB_iff (D:Int) 0 5).2 h2
 have hb:=(detR_beside (.agg #[I c.wide,I c.high,.slice aD nD cD,.slice aT nT cT,.slice aS nS cS]) c hW hH (k:=K) (d:=D) (by omega) (by omega) (.slice aD nD cD) (.slice aT nT cT) (.slice aS nS cS)).1
 rw [← eW,← eH] at hb
 cases hbe:bes c.W c.H K D with
 | none=>
  have hv:besV c.W c.H K D = .tuple #[I 0,.bool false]:=by unfold besV; rw [hbe]
  rw [hv] at hb
  simp (config := { maxSteps := 4000000 }) only [↓sxw,sxw,tf132,sxu,sxl,sxm,simprocAttr,detR_eq,h2',hb,hbe]
 | some n=>
  have hv:besV c.W c.H K D = .tuple #[I n,.bool true]:=by unfold besV; rw [hbe]
  rw [hv] at hb
  simp (config := { maxSteps := 4000000 }) only [↓sxw,sxw,tf132,sxu,sxl,sxm,simprocAttr,detR_eq,h2',hb,hbe]
def growL (l:List (Int × Int)) (t:Int):List (Int × Int):=match l[l.length - 1]? with
 | some p=>if p.2 = t - 1 then l.set (l.length - 1) (p.1,t) else l ++ [(t,t)]
 | none=>[(t,t)]
theorem grow_fn (w:World) (v:Value) (l:List (Int × Int)) (t:Nat) (hrow:HO.ok w (.row v 49 2 (cat spc l))) (hv:∃ ad c,v = .slice ad l.length c ∧ (ad = none → l = [])) (ht:t < 1000) (hl:l.length < 1000):
  SX.Fn Tryz.prog 62 [v,I t] w (fpsx [.row v 49 2 (cat spc l)]) fun r N=>∃ ad c,r = .slice ad (growL l t).length c ∧ (ad = none → growL l t = []) ∧ N = [HO.row r 49 2 (cat spc (growL l t))]:=by
 obtain ⟨ad,c,rfl,hnil⟩:=hv
 refine walk [] [] (det0_ok _ _) Tryz.func62 rfl Tryz.ntmps62 res62 (by kernel_rfl) (H0:=[.row (.slice ad l.length c) 49 2 (cat spc l)]) ⟨fun h hh=>by rw [List.mem_singleton] at hh; subst hh; exact hrow,fun h hh b hb=>⟨h,hh,by rw [List.mem_singleton] at hh; subst hh; exact hb⟩,List.pairwise_singleton _ _⟩ ?_
 have e1:wr ((t:Int) - 1) = (t:Int) - 1:=wrap_id (by omega)
 have happ:∀ (K:Value → List HO → Prop),(∀ ad1 c1,K (.slice (some ad1) (l.length + 1) c1) [.row (.slice (some ad1) (l.length + 1) c1) 49 2 (cat spc (l ++ [((t:Int),(t:Int))]))]) →
   ∀ b c0 z bytes,bytes = 16 → hold (AppOb ⟨w,fpsx [.row (.slice ad l.length c) 49 2 (cat spc l)]⟩ (some (49,2,z,bytes)) (.slice ad l.length c) (.slice (some ⟨b,0,none⟩) 1 c0) (.row (.slice (some ⟨b,0,none⟩) 1 c0) 49 2 [I t,I t] :: [.row (.slice ad l.length c) 49 2 (cat spc l)]) K) ⟨0⟩:=fun K hK b c0 z bytes hb=>
  app_one (l:=l) ((t:Int),(t:Int)) (HImp.refl _ _) spc_len spc_one (by subst hb; omega) fun ad1 c1=>hK ad1 c1
 by_cases h0:l = []
 ·subst h0
  have e0:(((0:Nat):Int) > 0) = False:=eq_false (by omega)
  simp (config := { maxSteps := 4000000 }) only [↓sxw,sxw,tf62,sxu,sxl,sxm,simprocAttr,e0]
  intro b
  refine happ _ (fun ad1 c1=>?_) b _ _ _ rfl
  simp (config := { maxSteps := 4000000 }) only [↓sxw,sxw,tf62,sxu,sxl,sxm,simprocAttr]
  first | exact ⟨some ad1,c1,rfl,(fun h=>by cases h),rfl⟩ | (intro h; cases h)
 have hlp:0 < l.length:=List.length_pos_iff.2 h0
 have e2:((l.length:Int) > 0) = True:=eq_true (by omega)
 have e3:wr ((l.length:Int) - 1) = ((l.length - 1:Nat):Int):=(wrap_id (by omega)).trans (by omega)
 obtain ⟨p,hp⟩:∃ p,l[l.length - 1]? = some p:=⟨_,List.getElem?_eq_getElem (by omega)⟩
 have hrd:∀ G,Rdv ⟨w,fpsx [.row (.slice ad l.length c) 49 2 (cat spc l)]⟩ (G ++ [.row (.slice ad l.length c) 49 2 (cat spc l)]) (.slice ad l.length c) 2 (cat spc l):=fun G=>row_rdv (E:=49) (by simp) ⟨_,_,_,rfl,by rw [cat_len spc_len],fun h=>by rw [hnil h]; rfl⟩
 have e4:((l.length - 1:Nat):Int) < (l.length:Int):=by omega
 simp (config := { maxSteps := 4000000 }) only [↓sxw,sxw,tf62,sxu,sxl,sxm,simprocAttr,e2,e3]
 refine at_f (hrd []) spc_len hp (o:=1) (x:=I p.2) rfl fun ad1=>?_
 by_cases hq:p.2 = (t:Int) - 1
 ·have e5:(p.2 = (t:Int) - 1) = True:=eq_true hq
  simp (config := { maxSteps := 4000000 }) only [↓sxw,sxw,tf62,sxu,sxl,sxm,simprocAttr,e1,e5,e3]
  have hg:growL l t = l.set (l.length - 1) (p.1,t):=by unfold growL; rw [hp]; simp [hq]
  rw [hg]
  cases ad with
  | none=>exact absurd (hnil rfl) h0
  | some ad2=>
  refine ⟨by omega,by omega,_,rfl,?_⟩
  refine wr_f1 (A:=[]) (B:=[]) (o:=1) (u:=p) (p.1,(t:Int)) rfl spc_len rfl hp rfl (by omega) ?_
  simp (config := { maxSteps := 4000000 }) only [↓sxw,sxw,tf62,sxu,sxl,sxm,simprocAttr]
  exact ⟨some ad2,c,by simp,(fun h=>by cases h)⟩
 ·have e5:(p.2 = (t:Int) - 1) = False:=eq_false hq
  simp (config := { maxSteps := 4000000 }) only [↓sxw,sxw,tf62,sxu,sxl,sxm,simprocAttr,e1,e5,e3]
  have hg:growL l t = l ++ [((t:Int),(t:Int))]:=by unfold growL; rw [hp]; simp [hq]
  rw [hg]
  intro b
  refine happ _ (fun ad3 c3=>?_) b _ _ _ rfl
  simp (config := { maxSteps := 4000000 }) only [↓sxw,sxw,tf62,sxu,sxl,sxm,simprocAttr]
  exact ⟨some ad3,c3,by simp,(fun h=>by cases h)⟩
end Go.Proofs.YtljpknnhimkkjaaGreatDoor

