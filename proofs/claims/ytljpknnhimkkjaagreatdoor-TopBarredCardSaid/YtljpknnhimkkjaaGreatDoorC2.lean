/- Parts of a proof: the symbolic walk and what it shows of single functions. -/
import Derived.Test.YtljpknnhimkkjaaGreatDoorC1
set_option linter.all false
namespace Go.Proofs.YtljpknnhimkkjaaGreatDoor
open Go.RowKit Go.SX
set_option maxRecDepth 4000
set_option maxHeartbeats 4000000
set_option linter.unusedSimpArgs false
set_option linter.unusedVariables false
theorem cellB_fn (w:World) (b:Nat) (x y:Value) (z1:Option Addr) (n c:Nat) (u v:Value) (h:∀ i v',[x,y,.slice z1 n c,u,v][i]? = some v' → w.cell? ⟨b,i,none⟩ = some v') (hn:n < 1000000) (k:Int):
  SX.Fn Tryz.prog 116 [I k,.pointer (some ⟨b,0,none⟩)] w (fun _=>False) fun r N=>r = .bool (!inB k 0 ((n:Int) - 1)):=by
 have e1:wr ((n:Int) - 1) = n - 1:=wrap_id (by omega)
 refine walk [] [] (detA_ok _ _) Tryz.func116 rfl Tryz.ntmps116 res116 (by kernel_rfl) no_facts ?_
 simp (config := { maxSteps := 4000000 }) only [↓sxw,sxw,tf116,sxu,sxl,sxm,simprocAttr]
 refine ld_old (by rw [add_block]; exact h 2 _ rfl) id ?_
 simp (config := { maxSteps := 4000000 }) only [↓sxw,sxw,tf116,sxu,sxl,sxm,simprocAttr,detA_eq,e1]
theorem tickB_fn (w:World) (b:Nat) (x y:Value) (z1:Option Addr) (n c:Nat) (u v:Value) (h:∀ i v',[x,y,u,.slice z1 n c,v][i]? = some v' → w.cell? ⟨b,i,none⟩ = some v') (hn:n < 1000000) (k:Int):
  SX.Fn Tryz.prog 117 [I k,.pointer (some ⟨b,0,none⟩)] w (fun _=>False) fun r N=>r = .bool (!inB k 0 ((n:Int) - 1)):=by
 have e1:wr ((n:Int) - 1) = n - 1:=wrap_id (by omega)
 refine walk [] [] (detA_ok _ _) Tryz.func117 rfl Tryz.ntmps117 res117 (by kernel_rfl) no_facts ?_
 simp (config := { maxSteps := 4000000 }) only [↓sxw,sxw,tf117,sxu,sxl,sxm,simprocAttr]
 refine ld_old (by rw [add_block]; exact h 3 _ rfl) id ?_
 simp (config := { maxSteps := 4000000 }) only [↓sxw,sxw,tf117,sxu,sxl,sxm,simprocAttr,detA_eq,e1]
theorem draughtB_fn (w:World) (k:Int):SX.Fn Tryz.prog 118 [I k] w (fun _=>False) fun r N=>r = .bool (!inB k 1 100):=by
 refine walk [] [] (detA_ok _ _) Tryz.func118 rfl Tryz.ntmps118 res118 (by kernel_rfl) no_facts ?_
 simp (config := { maxSteps := 4000000 }) only [↓sxw,sxw,tf118,sxu,sxl,sxm,simprocAttr,detA_eq]
def notCell (c:Cht) (k:Int):Bool:=!inB k 0 ((c.depth.length:Int) - 1)
def notTick (c:Cht) (k:Int):Bool:=!inB k 0 ((c.tide.length:Int) - 1)
def notDraught (k:Int):Bool:=!inB k 1 100
noncomputable def openE (c:Cht) (lc lt ld:List Int):Int:=if c.okB then (if lc.any (notCell c) || lt.any (notTick c) || ld.any notDraught then 1 else 0) else 10
theorem cells_old {w0:Base} {H:List HO} {b:Nat} {T:TypeId} {cs:List Value} (h:HO.cells b T cs ∈ H) {w:World} (hp:Hp w0 H w):∀ i v,cs[i]? = some v → w.cell? ⟨b,i,none⟩ = some v:=by
 intro i v hi
 rw [cell_of_cells (hp.ok _ h)]
 simpa using hi
theorem cell_keep {w w':World} {b:Nat} {cs:List Value} (h:∀ i v,cs[i]? = some v → w.cell? ⟨b,i,none⟩ = some v) (hk:Keep (fun _=>False) w w'):∀ i v,cs[i]? = some v → w'.cell? ⟨b,i,none⟩ = some v:=by
 intro i v hi
 have h1:=h i v hi
 have hlt:b < w.heap.size:=by
  by_cases hb:b < w.heap.size
  ·exact hb
  ·unfold World.cell? at h1
   rw [Array.getElem?_eq_none (by simpa using hb)] at h1
   cases h1
 unfold World.cell? at h1 ⊢
 rw [hk.block _ hlt id]
 exact h1
theorem open_fn (w:World) (v sc st sd:Value) (c:Cht) (lc lt ld:List Int) (hc:ChOk w v c) (hsm:c.small) (h1:Sl w sc 1 (ints lc)) (h2:Sl w st 1 (ints lt)) (h3:Sl w sd 1 (ints ld)) (hl:lc.length ≤ 100 ∧ lt.length ≤ 100 ∧ ld.length ≤ 100):
  SX.Fn Tryz.prog 63 [v,.agg #[sc,st,sd]] w (fun _=>False) fun r N=>r = .tuple #[v,I (openE c lc lt ld)]:=by
 have hD:=detM_ok (X:=fun _=>False) hc (fun _ _=>id)
 have hck:=(detM_check (v:=v) hsm).1
 obtain ⟨sD,sT,sS,rfl,hsD,hsT,hsS⟩:=hc
 obtain ⟨aD,nD,cD,rfl⟩:=hsD.shape
 obtain ⟨aT,nT,cT,rfl⟩:=hsT.shape
 obtain ⟨aS,nS,cS,rfl⟩:=hsS.shape
 obtain ⟨a1,n1,c1,rfl⟩:=h1.shape
 obtain ⟨a2,n2,c2,rfl⟩:=h2.shape
 obtain ⟨a3,n3,c3,rfl⟩:=h3.shape
 have hnD:=hsD.le i1_len (by omega)
 have hnT:=hsT.le spc_len (by omega)
 have hsm':=hsm
 unfold Cht.small at hsm'
 have dn:(∀ xs,detM (.agg #[I c.wide,I c.high,.slice aD nD cD,.slice aT nT cT,.slice aS nS cS]) c 114 xs = none):=fun _=>rfl
 refine walk [2] [] hD Tryz.func63 rfl Tryz.ntmps63 res63 (by kernel_rfl) no_facts ?_
 simp (config := { maxSteps := 4000000 }) only [↓sxw,sxw,tf63,sxu,sxl,sxm,simprocAttr]
 intro b
 refine ld_cells [I c.wide,I c.high,.slice aD nD cD,.slice aT nT cT,.slice aS nS cS] List.mem_cons_self rfl rfl ?_
 simp (config := { maxSteps := 4000000 }) only [↓sxw,sxw,tf63,sxu,sxl,sxm,simprocAttr]
 refine ld_cells [I c.wide,I c.high,.slice aD nD cD,.slice aT nT cT,.slice aS nS cS] List.mem_cons_self rfl rfl ?_
 cases hok:c.okB with
 | false=>
  rw [hok] at hck
  simp (config := { maxSteps := 4000000 }) only [↓sxw,sxw,tf63,sxu,sxl,sxm,simprocAttr,hck]
  simp [openE,hok]
 | true=>
  rw [hok] at hck
  simp (config := { maxSteps := 4000000 }) only [↓sxw,sxw,tf63,sxu,sxl,sxm,simprocAttr,hck,dn]
  have hT1:∀ {H w'},HO.cells b 25 [I c.wide,I c.high,.slice aD nD cD,.slice aT nT cT,.slice aS nS cS] ∈ H → Hp ⟨w,fun _=>False⟩ H w' → Tells w' (fun _=>False) vI 116 [.pointer (some ⟨b,0,none⟩)] (notCell c):=fun hm hp=>
   ⟨Tryz.call116,fun w2 hk a=>det_of_fn (by unfold notCell; rw [hnD]; exact cellB_fn w2 b _ _ _ _ _ _ _ (cell_keep (cells_old hm hp) hk) (by omega) a)⟩
  have hT2:∀ {H w'},HO.cells b 25 [I c.wide,I c.high,.slice aD nD cD,.slice aT nT cT,.slice aS nS cS] ∈ H → Hp ⟨w,fun _=>False⟩ H w' → Tells w' (fun _=>False) vI 117 [.pointer (some ⟨b,0,none⟩)] (notTick c):=fun hm hp=>
   ⟨Tryz.call117,fun w2 hk a=>det_of_fn (by unfold notTick; rw [hnT]; exact tickB_fn w2 b _ _ _ _ _ _ _ (cell_keep (cells_old hm hp) hk) (by omega) a)⟩
  have hT3:∀ w',Tells w' (fun _=>False) vI 118 [] notDraught:=fun w'=>⟨Tryz.call118,fun w2 hk a=>det_of_fn (draughtB_fn w2 a)⟩
  refine CallOb.pure (fun w' hp=>containsI_fn w' _ lc _ [.pointer (some ⟨b,0,none⟩)] _ (h1.hp (fun _ _=>id) hp) (by omega) (hT1 (by simp) hp)) ?_
  rintro r N rfl
  cases h6:lc.any (notCell c) with
  | true=>
   simp (config := { maxSteps := 4000000 }) only [↓sxw,sxw,tf63,sxu,sxl,sxm,simprocAttr]
   simp [openE,hok,h6]
  | false=>
   simp (config := { maxSteps := 4000000 }) only [↓sxw,sxw,tf63,sxu,sxl,sxm,simprocAttr,dn]
   refine CallOb.pure (fun w' hp=>containsI_fn w' _ lt _ [.pointer (some ⟨b,0,none⟩)] _ (h2.hp (fun _ _=>id) hp) (by omega) (hT2 (by simp) hp)) ?_
   rintro r N2 rfl
   cases h7:lt.any (notTick c) with
   | true=>
    simp (config := { maxSteps := 4000000 }) only [↓sxw,sxw,tf63,sxu,sxl,sxm,simprocAttr]
    simp [openE,hok,h6,h7]
   | false=>
    simp (config := { maxSteps := 4000000 }) only [↓sxw,sxw,tf63,sxu,sxl,sxm,simprocAttr,dn]
    refine CallOb.pure (fun w' hp=>containsI_fn w' _ ld _ [] _ (h3.hp (fun _ _=>id) hp) (by omega) (hT3 w')) ?_
    rintro r N3 rfl
    cases h8:ld.any notDraught with
    | true=>
     simp (config := { maxSteps := 4000000 }) only [↓sxw,sxw,tf63,sxu,sxl,sxm,simprocAttr]
     simp [openE,hok,h6,h7,h8]
    | false=>
     simp (config := { maxSteps := 4000000 }) only [↓sxw,sxw,tf63,sxu,sxl,sxm,simprocAttr]
     simp [openE,hok,h6,h7,h8]
end Go.Proofs.YtljpknnhimkkjaaGreatDoor

namespace Go.Proofs.YtljpknnhimkkjaaGreatDoor
open Go.RowKit Go.SX
set_option maxRecDepth 4000
set_option linter.unusedSimpArgs false
set_option linter.unusedVariables false
inductive Rc (W H a:Nat):Nat → Nat → Prop
 | zero:Rc W H a 0 a
 | step {n x y:Nat}:Rc W H a n x → y ∈ nbL W H x → Rc W H a (n + 1) y
def isD (W H a x n:Nat):Prop:=Rc W H a n x ∧ ∀ m,Rc W H a m x → n ≤ m
theorem isD_uniq {W H a x n m:Nat} (h:isD W H a x n) (k:isD W H a x m):n = m:=Nat.le_antisymm (h.2 m k.1) (k.2 n h.1)
theorem nb_self (W H k:Nat):k ∈ nbL W H k:=List.mem_cons_self
theorem Rc.mono {W H a n x:Nat} (h:Rc W H a n x):∀ m,n ≤ m → Rc W H a m x:=by
 intro m hm
 induction m with
 | zero=>
  have:n = 0:=by omega
  subst this; exact h
 | succ m ih=>
  by_cases e:n = m + 1
  ·subst e; exact h
  ·exact .step (ih (by omega)) (nb_self _ _ _)
theorem Rc.lt {W H a n x:Nat} (ha:a < W * H) (h:Rc W H a n x):x < W * H:=by
 induction h with
 | zero=>exact ha
 | step _ hy ih=>exact nbL_lt ih _ hy
theorem Rc.trans {W H a b n m x:Nat} (h:Rc W H a n b) (k:Rc W H b m x):Rc W H a (n + m) x:=by
 induction k with
 | zero=>exact h
 | step _ hy ih=>exact .step ih hy
theorem bes_back {W H k d n:Nat} (hk:k < W * H) (hd:d < 6) (h:bes W H k d = some n):bes W H n ((d + 3) % 6) = some k:=by
 have hW:0 < W:=by
  cases W with
  | zero=>simp at hk
  | succ w=>omega
 have hq:k / W < H:=Nat.div_lt_of_lt_mul hk
 have hr:k % W < W:=Nat.mod_lt _ hW
 have hkk:k / W * W + k % W = k:=by rw [Nat.mul_comm]; exact Nat.div_add_mod k W
 unfold bes at h
 simp only [] at h
 generalize k / W = q at *
 generalize k % W = r at *
 generalize hxe:(r:Int) + (if q % 2 = 1 then (wayAt d).2.1 else (wayAt d).1) = x at h
 generalize hye:(q:Int) + (wayAt d).2.2 = y at h
 split at h
 case isFalse=>cases h
 rename_i hc
 simp only [Option.some.injEq] at h
 have hn1:n / W = y.toNat:=by
  rw [← h,Nat.mul_comm,Nat.mul_add_div hW,Nat.div_eq_of_lt (by omega)]
  omega
 have hn2:n % W = x.toNat:=by
  rw [← h,Nat.mul_comm,Nat.mul_add_mod,Nat.mod_eq_of_lt (by omega)]
 unfold bes
 simp only [hn1,hn2]
 have key:(x.toNat:Int) + (if y.toNat % 2 = 1 then (wayAt ((d + 3) % 6)).2.1 else (wayAt ((d + 3) % 6)).1) = r ∧ (y.toNat:Int) + (wayAt ((d + 3) % 6)).2.2 = q:=by
  have:d = 0 ∨ d = 1 ∨ d = 2 ∨ d = 3 ∨ d = 4 ∨ d = 5:=by omega
  rcases this with rfl | rfl | rfl | rfl | rfl | rfl <;> simp [wayAt,ways6] at hxe hye ⊢ <;> (by_cases hp:q % 2 = 1 <;> (try simp [hp] at hxe) <;> (refine ⟨?_,by omega⟩) <;> (try split) <;> omega)
 rw [key.1,key.2,if_pos (by omega)]
 simp only [Int.toNat_natCast,hkk]
theorem nb_symm {W H x y:Nat} (hx:x < W * H) (h:y ∈ nbL W H x):x ∈ nbL W H y:=by
 rcases List.mem_cons.1 h with rfl | h
 ·exact nb_self _ _ _
 ·obtain ⟨d,hd,hb⟩:=List.mem_filterMap.1 h
  rw [List.mem_range] at hd
  exact List.mem_cons_of_mem _ (List.mem_filterMap.2 ⟨(d + 3) % 6,List.mem_range.2 (by omega),bes_back hx hd hb⟩)
theorem Rc.symm {W H a n x:Nat} (ha:a < W * H) (h:Rc W H a n x):Rc W H x n a:=by
 induction h with
 | zero=>exact .zero
 | @step n x y hx hy ih=>
  have:=(Rc.step .zero (nb_symm (hx.lt ha) hy)).trans ih
  rwa [Nat.add_comm] at this
end Go.Proofs.YtljpknnhimkkjaaGreatDoor

namespace Go.Proofs.YtljpknnhimkkjaaGreatDoor
open Go.RowKit Go.SX
set_option maxRecDepth 4000
set_option linter.unusedSimpArgs false
set_option linter.unusedVariables false
theorem at_cell {W x y:Nat} (hx:x < W):(y * W + x) / W = y ∧ (y * W + x) % W = x:=by
 have hW:0 < W:=by omega
 constructor
 ·rw [Nat.mul_comm,Nat.mul_add_div hW,Nat.div_eq_of_lt hx,Nat.add_zero]
 ·rw [Nat.mul_comm,Nat.mul_add_mod,Nat.mod_eq_of_lt hx]
theorem east {W H x y:Nat} (hx:x + 1 < W) (hy:y < H):y * W + (x + 1) ∈ nbL W H (y * W + x):=by
 refine List.mem_cons_of_mem _ (List.mem_filterMap.2 ⟨0,by simp,?_⟩)
 unfold bes
 obtain ⟨e1,e2⟩:=at_cell (y:=y) (show x < W by omega)
 simp only [e1,e2]
 have e3:(if y % 2 = 1 then (wayAt 0).2.1 else (wayAt 0).1) = 1:=by split <;> rfl
 have e4:(wayAt 0).2.2 = 0:=rfl
 rw [e3,e4,if_pos (by omega)]
 congr 2 <;> omega
theorem north {W H x y:Nat} (hx:x < W) (hy:y + 1 < H):(y + 1) * W + x ∈ nbL W H (y * W + x):=by
 refine List.mem_cons_of_mem _ (List.mem_filterMap.2 ⟨if y % 2 = 1 then 2 else 1,by split <;> simp,?_⟩)
 unfold bes
 obtain ⟨e1,e2⟩:=at_cell (y:=y) hx
 simp only [e1,e2]
 by_cases hp:y % 2 = 1
 ·simp only [hp,if_true]
  have e3:(wayAt 2).2.1 = 0:=rfl
  have e4:(wayAt 2).2.2 = 1:=rfl
  rw [e3,e4,if_pos (by omega)]
  have e5:((y:Int) + 1).toNat = y + 1:=by omega
  have e6:((x:Int) + 0).toNat = x:=by omega
  rw [e5,e6]
 ·simp only [hp,if_false]
  have e3:(wayAt 1).1 = 0:=rfl
  have e4:(wayAt 1).2.2 = 1:=rfl
  rw [e3,e4,if_pos (by omega)]
  have e5:((y:Int) + 1).toNat = y + 1:=by omega
  have e6:((x:Int) + 0).toNat = x:=by omega
  rw [e5,e6]
theorem horiz {W H y:Nat} (hy:y < H) (x:Nat):∀ j,x + j < W → Rc W H (y * W + x) j (y * W + (x + j))
 | 0,_=>.zero
 | j + 1,h=>.step (horiz hy x j (by omega)) (east (x:=x + j) (by omega) hy)
theorem vert {W H x:Nat} (hx:x < W) (y:Nat):∀ j,y + j < H → Rc W H (y * W + x) j ((y + j) * W + x)
 | 0,_=>.zero
 | j + 1,h=>.step (vert hx y j (by omega)) (north (y:=y + j) hx (by omega))
theorem cell_lt {W H x y:Nat} (hx:x < W) (hy:y < H):y * W + x < W * H:=by
 have:=Nat.mul_le_mul_left W (show y + 1 ≤ H by omega)
 rw [Nat.mul_add,Nat.mul_one,Nat.mul_comm W y] at this
 omega
theorem conn {W H a b:Nat} (ha:a < W * H) (hb:b < W * H):∃ n,n + 1 ≤ W * H ∧ Rc W H a n b:=by
 have hW:0 < W:=by
  cases W with
  | zero=>simp at ha
  | succ w=>omega
 have ya:a / W < H:=Nat.div_lt_of_lt_mul ha
 have yb:b / W < H:=Nat.div_lt_of_lt_mul hb
 have xa:a % W < W:=Nat.mod_lt _ hW
 have xb:b % W < W:=Nat.mod_lt _ hW
 have ea:a / W * W + a % W = a:=by rw [Nat.mul_comm]; exact Nat.div_add_mod a W
 have eb:b / W * W + b % W = b:=by rw [Nat.mul_comm]; exact Nat.div_add_mod b W
 rw [← ea,← eb]
 generalize a / W = y1 at *
 generalize a % W = x1 at *
 generalize b / W = y2 at *
 generalize b % W = x2 at *
 have hh:∃ n,n + 1 ≤ W ∧ Rc W H (y1 * W + x1) n (y1 * W + x2):=by
  by_cases h:x1 ≤ x2
  ·have:=horiz (W:=W) (H:=H) ya x1 (x2 - x1) (by omega)
   rw [show x1 + (x2 - x1) = x2 by omega] at this
   exact ⟨_,by omega,this⟩
  ·have:=horiz (W:=W) (H:=H) ya x2 (x1 - x2) (by omega)
   rw [show x2 + (x1 - x2) = x1 by omega] at this
   exact ⟨_,by omega,this.symm (cell_lt xb ya)⟩
 have hv:∃ n,n + 1 ≤ H ∧ Rc W H (y1 * W + x2) n (y2 * W + x2):=by
  by_cases h:y1 ≤ y2
  ·have:=vert (W:=W) (H:=H) xb y1 (y2 - y1) (by omega)
   rw [show y1 + (y2 - y1) = y2 by omega] at this
   exact ⟨_,by omega,this⟩
  ·have:=vert (W:=W) (H:=H) xb y2 (y1 - y2) (by omega)
   rw [show y2 + (y1 - y2) = y1 by omega] at this
   exact ⟨_,by omega,this.symm (cell_lt xb yb)⟩
 obtain ⟨n1,h1,r1⟩:=hh
 obtain ⟨n2,h2,r2⟩:=hv
 refine ⟨n1 + n2,?_,r1.trans r2⟩
 have hH:0 < H:=by omega
 have:(n1 + 1) * (n2 + 1) ≤ W * H:=Nat.mul_le_mul h1 h2
 have e:(n1 + 1) * (n2 + 1) = n1 * n2 + n1 + n2 + 1:=by rw [Nat.add_mul,Nat.mul_add]; omega
 have:=Nat.zero_le (n1 * n2)
 omega
theorem isD_ex {W H a x:Nat} (ha:a < W * H) (hx:x < W * H):∃ n,n + 1 ≤ W * H ∧ isD W H a x n:=by
 obtain ⟨n,hn,hr⟩:=conn ha hx
 have key:∀ n,Rc W H a n x → ∃ m,m ≤ n ∧ isD W H a x m:=fun n=>by
  induction n using Nat.strongRecOn with
  | _ n ih=>
   intro h
   by_cases hc:∃ m,m < n ∧ Rc W H a m x
   ·obtain ⟨m,hm,hmr⟩:=hc
    obtain ⟨k,hk,hkd⟩:=ih m hm hmr
    exact ⟨k,by omega,hkd⟩
   ·refine ⟨n,Nat.le_refl _,h,fun m hm=>?_⟩
    by_cases hlt:m < n
    ·exact absurd ⟨m,hlt,hm⟩ hc
    ·omega
 obtain ⟨m,hm,hd⟩:=key n hr
 exact ⟨m,by omega,hd⟩
def stv (st:List Int) (x:Nat):Int:=st.getD x (-1)
theorem stv_set {st:List Int} {x y:Nat} {v:Int} (hy:y < st.length):stv (st.set y v) x = if x = y then v else stv st x:=by
 unfold stv
 rw [List.getD_eq_getElem?_getD,List.getD_eq_getElem?_getD]
 by_cases h:x = y
 ·subst h
  rw [List.getElem?_set_self hy,if_pos rfl]; rfl
 ·rw [List.getElem?_set_ne (by omega),if_neg h]
def unv (st:List Int):Nat:=st.countP (fun v=>decide (v < 0))
theorem unv_set:∀ {st:List Int} {y:Nat} {v:Int},y < st.length → stv st y < 0 → 0 ≤ v → unv (st.set y v) + 1 = unv st
 | [],y,v,h,_,_=>by simp at h
 | x :: st,0,v,_,h1,h2=>by
  simp only [stv,List.getD_cons_zero] at h1
  simp only [unv,List.set_cons_zero,List.countP_cons]
  simp [h1,show ¬ v < 0 by omega]
 | x :: st,y + 1,v,h,h1,h2=>by
  have:=unv_set (st:=st) (y:=y) (v:=v) (by simpa using h) (by simpa [stv] using h1) h2
  simp only [unv,List.set_cons_succ,List.countP_cons] at this ⊢
  omega
structure BfI (W H a:Nat) (st:List Int) (u:Nat) (r:List Nat) (j:Nat):Prop where
 len:st.length = W * H
 val:∀ x,0 ≤ stv st x → x < W * H ∧ isD W H a x (stv st x).toNat
 mem:∀ x ∈ u :: r,0 ≤ stv st x
 lo:∀ x ∈ r,stv st u ≤ stv st x ∧ stv st x ≤ stv st u + 1
 srt:r.Pairwise fun x y=>stv st x ≤ stv st y
 all:∀ n x,Rc W H a n x → (n:Int) ≤ stv st u → 0 ≤ stv st x
 done:∀ x,0 ≤ stv st x → x ∈ u :: r ∨ ∀ y ∈ nbL W H x,0 ≤ stv st y
 pre:∀ i y,i < j → (nbL W H u)[i]? = some y → 0 ≤ stv st y
theorem bf_init {W H a:Nat} (ha:a < W * H):BfI W H a ((List.replicate (W * H) (-1)).set a 0) a [] 0:=by
 have hs:∀ x,stv ((List.replicate (W * H) (-1)).set a 0) x = if x = a then 0 else -1:=fun x=>by
  rw [stv_set (by simpa using ha)]
  split
  ·rfl
  ·unfold stv
   rw [List.getD_eq_getElem?_getD]
   by_cases h:x < W * H
   ·rw [List.getElem?_replicate,if_pos h]; rfl
   ·rw [List.getElem?_replicate,if_neg h]; rfl
 have h0:∀ x,0 ≤ stv ((List.replicate (W * H) (-1)).set a 0) x → x = a:=fun x h=>by
  rw [hs] at h
  split at h
  ·assumption
  ·omega
 refine ⟨by simp,fun x h=>?_,fun x h=>?_,by simp,.nil,fun n x h hn=>?_,fun x h=>.inl ?_,fun i y h=>by omega⟩
 ·have:=h0 x h
  subst this
  refine ⟨ha,?_⟩
  rw [hs,if_pos rfl]
  exact ⟨.zero,fun m _=>Nat.zero_le _⟩
 ·rw [List.mem_singleton] at h
  subst h
  rw [hs,if_pos rfl]
  exact Int.le_refl _
 ·rw [hs,if_pos rfl] at hn
  have:n = 0:=by omega
  subst this
  cases h
  rw [hs,if_pos rfl]
  exact Int.le_refl _
 ·rw [h0 x h]; simp
theorem bf_skip {W H a:Nat} {st:List Int} {u:Nat} {r:List Nat} {j y:Nat} (h:BfI W H a st u r j) (hy:(nbL W H u)[j]? = some y) (h0:0 ≤ stv st y):BfI W H a st u r (j + 1):=
 ⟨h.len,h.val,h.mem,h.lo,h.srt,h.all,h.done,fun i z hi hz=>by
  by_cases e:i = j
  ·subst e; rw [hy] at hz; cases hz; exact h0
  ·exact h.pre i z (by omega) hz⟩
theorem bf_visit {W H a:Nat} {st:List Int} {u:Nat} {r:List Nat} {j y:Nat} (h:BfI W H a st u r j) (hy:(nbL W H u)[j]? = some y) (h0:stv st y < 0):BfI W H a (st.set y (stv st u + 1)) u (r ++ [y]) (j + 1):=by
 have hu:=h.mem u List.mem_cons_self
 obtain ⟨huN,hud⟩:=h.val u hu
 have hym:y ∈ nbL W H u:=List.mem_of_getElem? hy
 have hyN:y < W * H:=nbL_lt huN y hym
 have hyl:y < st.length:=by rw [h.len]; exact hyN
 have hs:∀ x,stv (st.set y (stv st u + 1)) x = if x = y then stv st u + 1 else stv st x:=fun x=>stv_set hyl
 have hne:∀ x,0 ≤ stv st x → x ≠ y:=fun x hx e=>by subst e; omega
 have hs':∀ x,0 ≤ stv st x → stv (st.set y (stv st u + 1)) x = stv st x:=fun x hx=>by rw [hs,if_neg (hne x hx)]
 have hge:∀ x,0 ≤ stv st x → 0 ≤ stv (st.set y (stv st u + 1)) x:=fun x hx=>by rw [hs' x hx]; exact hx
 have hyv:stv (st.set y (stv st u + 1)) y = stv st u + 1:=by rw [hs,if_pos rfl]
 have hur:=hs' u hu
 refine ⟨by rw [List.length_set]; exact h.len,fun x hx=>?_,fun x hx=>?_,fun x hx=>?_,?_,fun n x hr hn=>?_,fun x hx=>?_,fun i z hi hz=>?_⟩
 ·by_cases e:x = y
  ·subst e
   refine ⟨hyN,?_⟩
   rw [hyv]
   have e1:(stv st u + 1).toNat = (stv st u).toNat + 1:=by omega
   rw [e1]
   refine ⟨.step hud.1 hym,fun m hm=>?_⟩
   by_cases hlt:m ≤ (stv st u).toNat
   ·have:=h.all m x hm (by omega)
    omega
   ·omega
  ·rw [hs,if_neg e] at hx
   rw [hs,if_neg e]
   exact h.val x hx
 ·rcases List.mem_cons.1 hx with rfl | hx
  ·exact hge _ hu
  ·rcases List.mem_append.1 hx with hx | hx
   ·exact hge x (h.mem x (List.mem_cons_of_mem _ hx))
   ·rw [List.mem_singleton] at hx
    subst hx
    rw [hyv]; omega
 ·rw [hur]
  rcases List.mem_append.1 hx with hx | hx
  ·rw [hs' x (h.mem x (List.mem_cons_of_mem _ hx))]
   exact h.lo x hx
  ·rw [List.mem_singleton] at hx
   subst hx
   rw [hyv]; omega
 ·refine List.pairwise_append.2 ⟨?_,List.pairwise_singleton _ _,fun x hx z hz=>?_⟩
  ·refine List.Pairwise.imp_of_mem (fun {x z} hx hz hxz=>?_) h.srt
   rw [hs' x (h.mem x (List.mem_cons_of_mem _ hx)),hs' z (h.mem z (List.mem_cons_of_mem _ hz))]
   exact hxz
  ·rw [List.mem_singleton] at hz
   subst hz
   rw [hs' x (h.mem x (List.mem_cons_of_mem _ hx)),hyv]
   exact (h.lo x hx).2
 ·rw [hur] at hn
  exact hge x (h.all n x hr hn)
 ·by_cases e:x = y
  ·subst e
   exact .inl (by simp)
  ·rw [hs,if_neg e] at hx
   rcases h.done x hx with hm | hd
   ·refine .inl ?_
    rcases List.mem_cons.1 hm with rfl | hm
    ·exact List.mem_cons_self
    ·exact List.mem_cons_of_mem _ (List.mem_append_left _ hm)
   ·exact .inr fun z hz=>hge z (hd z hz)
 ·by_cases e:i = j
  ·subst e; rw [hy] at hz; cases hz; rw [hyv]; omega
  ·exact hge z (h.pre i z (by omega) hz)
theorem bf_all {W H a:Nat} {st:List Int} {u:Nat} (h:BfI W H a st u [] (nbL W H u).length):∀ n x,Rc W H a n x → 0 ≤ stv st x:=by
 intro n x hr
 induction hr with
 | zero=>exact h.all 0 a .zero (h.mem u List.mem_cons_self)
 | @step n x y _ hy ih=>
  rcases h.done x ih with hm | hd
  ·rw [List.mem_singleton] at hm
   subst hm
   obtain ⟨i,hi,hiy⟩:=List.getElem_of_mem hy
   exact h.pre i y hi (by rw [List.getElem?_eq_getElem hi,hiy])
  ·exact hd y hy
theorem bf_pop {W H a:Nat} {st:List Int} {u v:Nat} {r:List Nat} (h:BfI W H a st u (v :: r) (nbL W H u).length):BfI W H a st v r 0:=by
 have hpu:∀ y ∈ nbL W H u,0 ≤ stv st y:=fun y hy=>by
  obtain ⟨i,hi,hiy⟩:=List.getElem_of_mem hy
  exact h.pre i y hi (by rw [List.getElem?_eq_getElem hi,hiy])
 have hv:=h.lo v List.mem_cons_self
 have hsr:=List.pairwise_cons.1 h.srt
 refine ⟨h.len,h.val,fun x hx=>h.mem x (List.mem_cons_of_mem _ hx),fun x hx=>⟨hsr.1 x hx,?_⟩,hsr.2,fun n x hr hn=>?_,fun x hx=>?_,fun i y hi=>by omega⟩
 ·have:=h.lo x (List.mem_cons_of_mem _ hx)
  omega
 ·by_cases hle:(n:Int) ≤ stv st u
  ·exact h.all n x hr hle
  ·have hu:=h.mem u List.mem_cons_self
   cases hr with
   | zero=>simp at hle; omega
   | @step m z _ hz hxz=>
    have hz0:=h.all m z hz (by omega)
    rcases h.done z hz0 with hm | hd
    ·rcases List.mem_cons.1 hm with rfl | hm
     ·exact hpu x hxz
     ·exfalso
      have h1:=(h.val z hz0).2.2 m hz
      have h2:stv st v ≤ stv st z:=by
       rcases List.mem_cons.1 hm with rfl | hm
       ·exact Int.le_refl _
       ·exact hsr.1 z hm
      omega
    ·exact hd x hxz
 ·rcases h.done x hx with hm | hd
  ·rcases List.mem_cons.1 hm with rfl | hm
   ·exact .inr hpu
   ·exact .inl hm
  ·exact .inr hd
end Go.Proofs.YtljpknnhimkkjaaGreatDoor

namespace Go.Proofs.YtljpknnhimkkjaaGreatDoor
open Go.RowKit Go.SX
set_option maxRecDepth 4000
set_option maxHeartbeats 8000000
set_option linter.unusedSimpArgs false
set_option linter.unusedVariables false
abbrev Cht.W (c:Cht):Nat:=c.wide.toNat
abbrev Cht.H (c:Cht):Nat:=c.high.toNat
theorem Cht.ok.dims {c:Cht} (h:c.ok):c.wide = c.W ∧ c.high = c.H ∧ (1 ≤ c.W ∧ c.W ≤ 12) ∧ (1 ≤ c.H ∧ c.H ≤ 12) ∧ c.depth.length = c.W * c.H:=by
 obtain ⟨⟨a1,a2⟩,⟨b1,b2⟩,h3,_⟩:=h
 have e1:c.wide = c.W:=(Int.toNat_of_nonneg (by omega)).symm
 have e2:c.high = c.H:=(Int.toNat_of_nonneg (by omega)).symm
 refine ⟨e1,e2,by omega,by omega,?_⟩
 rw [e1,e2] at h3
 exact_mod_cast h3
abbrev nts (p:List Nat):List Int:=p.map fun k:Nat=>(k:Int)
theorem openE_zero {c:Cht} {lc lt ld:List Int} (h:openE c lc lt ld = 0):c.ok ∧ (∀ k ∈ lc,0 ≤ k ∧ k.toNat < c.depth.length) ∧ (∀ t ∈ lt,0 ≤ t ∧ t.toNat < c.tide.length) ∧ ∀ g ∈ ld,1 ≤ g ∧ g ≤ 100:=by
 unfold openE at h
 cases hok:c.okB with
 | false=>simp [hok] at h
 | true=>
  rw [hok,if_pos rfl] at h
  split at h
  ·omega
  ·rename_i hn
   simp only [Bool.or_eq_true,not_or,Bool.not_eq_true,List.any_eq_false] at hn
   obtain ⟨⟨h1,h2⟩,h3⟩:=hn
   refine ⟨(okB_iff c).1 hok,fun k hk=>?_,fun t ht=>?_,fun g hg=>?_⟩
   ·have:=h1 k hk
    simp [notCell,inB_iff] at this
    omega
   ·have:=h2 t ht
    simp [notTick,inB_iff] at this
    omega
   ·have:=h3 g hg
    simp [notDraught,inB_iff] at this
    omega
def BfQ (W H a:Nat) (st:List Int):List Nat → Prop
 | []=>st.length = W * H ∧ (∀ x,x < W * H → 0 ≤ stv st x) ∧ ∀ x,0 ≤ stv st x → x < W * H ∧ isD W H a x (stv st x).toNat
 | u :: r=>BfI W H a st u r 0
theorem ways_lt {w:World} (h:Ways w):0 < w.heap.size:=by
 have h1:=h 0 _ rfl
 by_cases hb:0 < w.heap.size
 ·exact hb
 ·unfold World.cell? at h1
  rw [Array.getElem?_eq_none (by simpa using hb)] at h1
  cases h1
theorem ld_at1 {α:Type} {w0:Base} {H:List HO} {ad:Addr} {len cap:Nat} {f:α → List Value} {l:List α} {k:Nat} {u:α} {x:Value} {K:SV → Prop} (h:Rdv w0 H (.slice (some ad) len cap) 1 (cat f l)) (hf:∀ a,(f a).length = 1)
  (hu:l[k]? = some u) (hx:f u = [x]) (hK:K (.v x)):hold (LdOb w0 H (ad.add (k * 1)) none K) ⟨0⟩:=by
 obtain ⟨_,_,ad',h1,h2⟩:=at_1 (K:=fun _=>K) h hf hu hx fun _=>hK
 cases h1
 exact h2
theorem apart_fn (w:World) (hw:Ways w) (v:Value) (c:Cht) (hc:ChOk w v c) (hsm:c.small) (a b:Int):
  SX.Fn Tryz.prog 20 [v,I a,I b] w (fun _=>False) fun r N=>(openE c [a,b] [] [] ≠ 0 ∧ r = .tuple #[I 0,I (openE c [a,b] [] [])]) ∨
   (openE c [a,b] [] [] = 0 ∧ ∃ d:Nat,r = .tuple #[I d,I 0] ∧ isD c.W c.H a.toNat b.toNat d):=by
 have hc0:=hc
 obtain ⟨sD,sT,sS,rfl,hsD,hsT,hsS⟩:=hc
 obtain ⟨aD,nD,cD,rfl⟩:=hsD.shape
 obtain ⟨aT,nT,cT,rfl⟩:=hsT.shape
 obtain ⟨aS,nS,cS,rfl⟩:=hsS.shape
 refine walk [11] [] (det0_ok _ _) Tryz.func20 rfl Tryz.ntmps20 res20 (by kernel_rfl) no_facts ?_
 simp (config := { maxSteps := 4000000 }) only [↓sxw,sxw,tf20,sxu,sxl,sxm,simprocAttr,det0]
 intro b1
 refine CallOb.pure (fun w' hp=>open_fn w' _ _ _ _ c [a,b] [] [] (hc0.hp hp) hsm (row_hp (E:=3) (xs:=ints [a,b]) (by simp [cat,i1]) hp) (Sl.nil _ _) (Sl.nil _ _) (by simp)) ?_
 rintro r N rfl
 by_cases he:openE c [a,b] [] [] = 0
 case neg=>
  have e1:(openE c [a,b] [] [] = 0) = False:=eq_false he
  simp (config := { maxSteps := 4000000 }) only [↓sxw,sxw,tf20,sxu,sxl,sxm,simprocAttr,e1]
  exact .inl trivial
 obtain ⟨hok,hcl,_,_⟩:=openE_zero he
 have ha:=hcl a (by simp)
 have hb:=hcl b (by simp)
 obtain ⟨eW,eH,hW,hH,hlen⟩:=hok.dims
 have hn144:c.depth.length < 200:=by
  have:=Nat.mul_le_mul hW.2 hH.2
  omega
 rw [he]
 obtain ⟨A,hA⟩:∃ A:Nat,a = A:=⟨a.toNat,by omega⟩
 obtain ⟨B,hB⟩:∃ B:Nat,b = B:=⟨b.toNat,by omega⟩
 subst hA hB
 simp (config := { maxSteps := 4000000 }) only [↓sxw,sxw,tf20,sxu,sxl,sxm,simprocAttr,det0]
 refine CallOb.pure (fun w' hp=>row_fn w' _ _ _ _ _ (-1) c.depth (hsD.hp (fun _ _=>id) hp) hn144 (by omega)) ?_
 rintro r N2 ⟨b2,rfl,hm2⟩
 simp (config := { maxSteps := 4000000 }) only [↓sxw,sxw,tf20,sxu,sxl,sxm,simprocAttr]
 obtain ⟨s1,t1,rfl⟩:=List.append_of_mem hm2
 refine ⟨by omega,by omega,_,rfl,?_⟩
 refine wr_at (A:=s1) (l:=List.replicate c.depth.length (-1:Int)) (k:=A) (u:=(0:Int)) (List.append_assoc _ _ _) i1_len (by simp) (by simp; omega) ?_
 simp (config := { maxSteps := 4000000 }) only [↓sxw,sxw,tf20,sxu,sxl,sxm,simprocAttr]
 intro b3 b4
 refine wr_cell (A:=[]) rfl (by simp) ?_
 have hAN:A < c.W * c.H:=by omega
 have hBN:B < c.W * c.H:=by omega
 have hwl:=ways_lt hw
 generalize hFF:(fun (st:List Int) (q:List Nat) (bq:Nat) (x:Value)=>[HO.cells bq 22 [x],HO.row x 3 1 (ints (nts q)),HO.row (.slice (some ⟨b2,0,none⟩) c.depth.length c.depth.length) 3 1 (ints st)]) = FF
 have hFe:∀ st q bq x,FF st q bq x = [HO.cells bq 22 [x],HO.row x 3 1 (ints (nts q)),HO.row (.slice (some ⟨b2,0,none⟩) c.depth.length c.depth.length) 3 1 (ints st)]:=fun _ _ _ _=>by rw [← hFF]
 have hrS:∀ (st:List Int) q bq x,st.length = c.depth.length → ∀ G,Rdv ⟨w,fun _=>False⟩ (G ++ FF st q bq x) (.slice (some ⟨b2,0,none⟩) c.depth.length c.depth.length) 1 (ints st):=fun st q bq x hl G=>
  row_rdv (E:=3) (by rw [hFe]; simp) ⟨_,_,_,rfl,by rw [cat_len i1_len,hl],fun h=>by cases h⟩
 have hat:∀ (st:List Int) (x:Nat),x < st.length → st[x]? = some (stv st x):=fun st x h=>getD_at h (-1)
 refine loop_constI (FF ((List.replicate c.depth.length (-1:Int)).set A 0) [A] b4 (.slice (some ⟨b3,0,none⟩) 1 1)) (by rw [hFe]; exact HImp.pick2 (.cons_cons _ (.cons_cons _ (List.singleton_sublist.2 (by simp))))) [(11,12),(32,64)]
  (fun p:List Int × List Nat × Nat × Value=>[(11,.pointer (some ⟨p.2.2.1,0,none⟩))]) (fun p H1=>unv p.1 + p.2.1.length ≤ c.depth.length + 1 ∧ BfQ c.W c.H A p.1 p.2.1 ∧ (∃ ad cp,p.2.2.2 = .slice (some ad) p.2.1.length cp) ∧ H1 = FF p.1 p.2.1 p.2.2.1 p.2.2.2) (fun p=>unv p.1 + p.2.1.length) (_,[A],b4,.slice (some ⟨b3,0,none⟩) 1 1) ?_ ⟨?_,?_,⟨_,_,rfl⟩,rfl⟩ ?_
 ·simp (config := { maxSteps := 4000000 }) only [↓sxw,sxw,tf20,sxu,sxl,sxm,simprocAttr]
 ·have h1:unv ((List.replicate c.depth.length (-1:Int)).set A 0) ≤ ((List.replicate c.depth.length (-1:Int)).set A 0).length:=List.countP_le_length
  simp only [List.length_set,List.length_replicate] at h1
  simp only [List.length_cons,List.length_nil]
  omega
 ·rw [hlen]
  exact bf_init hAN
 ·rintro ⟨st,q,bq,x⟩ H1 g hinv
  simp only [] at hinv
  obtain ⟨hun0,hbf,⟨aq,cq,rfl⟩,rfl⟩:=hinv
  have hstl:st.length = c.depth.length:=by
   rw [hlen]
   cases q with
   | nil=>exact hbf.1
   | cons u r=>exact hbf.len
  simp (config := { maxSteps := 4000000 }) only [↓sxw,sxw,tf20,sxu,sxl,sxm,simprocAttr]
  refine at_1 (hrS st q bq _ hstl []) i1_len (hat st B (by omega)) rfl fun ad1=>?_
  by_cases hneg:stv st B < 0
  case neg=>
   have e1:(stv st B < 0) = False:=eq_false hneg
   simp (config := { maxSteps := 4000000 }) only [↓sxw,sxw,tf20,sxu,sxl,sxm,simprocAttr,e1]
   refine at_1 (hrS st q bq _ hstl []) i1_len (hat st B (by omega)) rfl fun ad2=>?_
   simp (config := { maxSteps := 4000000 }) only [↓sxw,sxw,tf20,sxu,sxl,sxm,simprocAttr]
   refine .inr ⟨(stv st B).toNat,by rw [Int.toNat_of_nonneg (by omega)],?_⟩
   cases q with
   | nil=>exact (hbf.2.2 B (by omega)).2
   | cons u r=>exact (hbf.val B (by omega)).2
  cases q with
  | nil=>exact absurd (hbf.2.1 B hBN) (by omega)
  | cons u r=>
  have e1:(stv st B < 0) = True:=eq_true hneg
  have huN:=(hbf.val u (hbf.mem u List.mem_cons_self)).1
  have e2:((0:Int) < (((u :: r).length:Nat):Int)) = True:=eq_true (by simp)
  have hrQ:∀ (st:List Int) q bq ad cp,∀ G,Rdv ⟨w,fun _=>False⟩ (G ++ FF st q bq (.slice (some ad) q.length cp)) (.slice (some ad) q.length cp) 1 (ints (nts q)):=fun st q bq ad cp G=>
   row_rdv (E:=3) (by rw [hFe]; simp) ⟨_,_,_,rfl,by rw [cat_len i1_len,List.length_map],fun h=>by cases h⟩
  have hmQ:∀ st q bq x,HO.cells bq 22 [x] ∈ FF st q bq x:=fun st q bq x=>by rw [hFe]; simp
  simp (config := { maxSteps := 4000000 }) only [↓sxw,sxw,tf20,sxu,sxl,sxm,simprocAttr,e1]
  refine ld_cell (hmQ st (u :: r) bq _) rfl ?_
  simp (config := { maxSteps := 4000000 }) only [↓sxw,sxw,tf20,sxu,sxl,sxm,simprocAttr]
  refine ⟨by omega,_,rfl,?_⟩
  refine ld_at1 (k:=0) (hrQ st (u :: r) bq aq cq []) i1_len (show (nts (u :: r))[0]? = some (u:Int) from rfl) rfl ?_
  simp (config := { maxSteps := 4000000 }) only [↓sxw,sxw,tf20,sxu,sxl,sxm,simprocAttr,det0]
  refine CallOb.pure (fun w' hp=>near_fn w' _ _ _ _ _ _) ?_
  rintro r0 N3 ⟨bc,bs,rfl,rfl⟩
  simp (config := { maxSteps := 4000000 }) only [↓sxw,sxw,tf20,sxu,sxl,sxm,simprocAttr]
  refine range_introR Tryz.call120 (nbL c.W c.H u).length (nearArg c.W c.H u) [.cells bc 3 [I u],.cells bs 121 [I c.wide,I c.high,.slice aD nD cD,.slice aT nT cT,.slice aS nS cS]] (FF st (u :: r) bq (.slice (some aq) (r.length + 1) cq))
   (fun k L' H'=>L' = [(25,[I c.wide,I c.high,.slice aD nD cD,.slice aT nT cT,.slice aS nS cS]),(121,[I c.wide,I c.high,.slice aD nD cD,.slice aT nT cT,.slice aS nS cS]),(22,[.slice (some ⟨b2,0,none⟩) c.depth.length c.depth.length])] ∧
    ∃ st' r' ad cp,BfI c.W c.H A st' u r' k ∧ unv st' + r'.length = unv st + r.length ∧ H' = FF st' (u :: r') bq (.slice (some ad) (r'.length + 1) cp)) (fun b=>b = bc ∨ b = bs ∨ b = 0)
   (HImp.refl _ _) (fun x hx=>?_) (fun w' hp=>?_) ⟨rfl,st,r,aq,cq,hbf,rfl,rfl⟩ ?_ ?_ ?_
  ·rcases hx with rfl | rfl | rfl
   ·exact .inr ⟨_,List.mem_cons_self,rfl⟩
   ·exact .inr ⟨_,List.mem_cons_of_mem _ List.mem_cons_self,rfl⟩
   ·exact .inl ⟨hwl,id⟩
  ·have h1:=cells_old (w0:=⟨w,fun _=>False⟩) (b:=bs) (List.mem_append_left _ (List.mem_cons_of_mem _ List.mem_cons_self)) hp
   refine near_it w' (hw.hp hp) bc bs c.W c.H u (.slice aD nD cD) (.slice aT nT cT) (.slice aS nS cS) hW hH huN (cells_hp (List.mem_append_left _ List.mem_cons_self) hp) ?_
   rw [← eW,← eH]
   exact h1
  ·rintro k vs F ⟨n,_,rfl,_⟩
   try rfl
  ·rintro k vs F L' H' hk ⟨n,hnn,rfl,rfl⟩ - ⟨rfl,st',r',ad,cp,hbf',hms,rfl⟩
   have hnN:n < c.W * c.H:=nbL_lt huN n (List.mem_of_getElem? hnn)
   have hstl':st'.length = c.depth.length:=by rw [hlen]; exact hbf'.len
   have hu0:=hbf'.mem u List.mem_cons_self
   obtain ⟨_,hud⟩:=hbf'.val u hu0
   obtain ⟨du,hdu,hdd⟩:=isD_ex hAN huN
   have hdu2:=isD_uniq hud hdd
   simp (config := { maxSteps := 4000000 }) only [↓sxw,sxw,tf20,sxu,sxl,sxm,simprocAttr]
   refine ⟨by omega,by omega,_,rfl,ld_at1 (hrS st' (u :: r') bq _ hstl' []) i1_len (hat st' n (by omega)) rfl ?_⟩
   by_cases hn0:stv st' n < 0
   case neg=>
    have e3:(stv st' n < 0) = False:=eq_false hn0
    simp (config := { maxSteps := 4000000 }) only [↓sxw,sxw,tf20,sxu,sxl,sxm,simprocAttr,e3]
    exact ⟨_,HImp.refl _ _,st',r',ad,cp,bf_skip hbf' hnn (by omega),hms,rfl⟩
   have e3:(stv st' n < 0) = True:=eq_true hn0
   have e4:wr (stv st' u + 1) = stv st' u + 1:=wrap_id (by omega)
   simp (config := { maxSteps := 4000000 }) only [↓sxw,sxw,tf20,sxu,sxl,sxm,simprocAttr,e3]
   refine ld_cell (hmQ st' (u :: r') bq _) rfl ?_
   simp (config := { maxSteps := 4000000 }) only [↓sxw,sxw,tf20,sxu,sxl,sxm,simprocAttr]
   refine ⟨by omega,_,rfl,ld_at1 (k:=0) (hrQ st' (u :: r') bq ad cp []) i1_len (show (nts (u :: r'))[0]? = some (u:Int) from rfl) rfl ?_⟩
   simp (config := { maxSteps := 4000000 }) only [↓sxw,sxw,tf20,sxu,sxl,sxm,simprocAttr]
   refine ⟨by omega,by omega,_,rfl,ld_at1 (hrS st' (u :: r') bq _ hstl' []) i1_len (hat st' u (by omega)) rfl ?_⟩
   simp (config := { maxSteps := 4000000 }) only [↓sxw,sxw,tf20,sxu,sxl,sxm,simprocAttr,e4]
   refine ⟨by omega,by omega,_,rfl,?_⟩
   refine wr_at (u:=stv st' u + 1) (hFe st' (u :: r') bq (.slice (some ad) (r'.length + 1) cp)) i1_len hstl' (by omega) (A:=[_,_]) (B:=[]) ?_
   rw [show ([HO.cells bq 22 [.slice (some ad) (r'.length + 1) cp],HO.row (.slice (some ad) (r'.length + 1) cp) 3 1 (ints (nts (u :: r')))] ++ [HO.row (.slice (some ⟨b2,0,none⟩) c.depth.length c.depth.length) 3 1 (cat i1 (st'.set n (stv st' u + 1)))]) = FF (st'.set n (stv st' u + 1)) (u :: r') bq (.slice (some ad) (r'.length + 1) cp) from (hFe _ _ _ _).symm]
   simp (config := { maxSteps := 4000000 }) only [↓sxw,sxw,tf20,sxu,sxl,sxm,simprocAttr]
   refine ld_cell (hmQ _ (u :: r') bq _) rfl ?_
   simp (config := { maxSteps := 4000000 }) only [↓sxw,sxw,tf20,sxu,sxl,sxm,simprocAttr]
   intro b5
   have hv:=bf_visit hbf' hnn hn0
   have hun:=unv_set (st:=st') (y:=n) (v:=stv st' u + 1) (by omega) hn0 (by omega)
   have hrl:r'.length ≤ 400:=by
    simp only [List.length_cons] at hun0
    omega
   refine app_one (l:=nts (u :: r')) (n:Int) (by rw [hFe]; exact HImp.swap _ _ _ _) i1_len i1_one (by simp; omega) fun ad5 c5=>?_
   simp (config := { maxSteps := 4000000 }) only [↓sxw,sxw,tf20,sxu,sxl,sxm,simprocAttr]
   refine wr_cell (A:=[_]) (B:=[_]) rfl (by simp) ?_
   simp (config := { maxSteps := 4000000 }) only [↓sxw,sxw,tf20,sxu,sxl,sxm,simprocAttr]
   refine ⟨_,HImp.swap _ _ _ _,(st'.set n (stv st' u + 1)),r' ++ [n],ad5,c5,hv,by simp; omega,?_⟩
   rw [hFe]
   try simp
  ·rintro L' H' - ⟨rfl,st',r',ad,cp,hbf',hms,rfl⟩
   simp (config := { maxSteps := 4000000 }) only [↓sxw,sxw,tf20,sxu,sxl,sxm,simprocAttr]
   refine ld_cell (hmQ st' (u :: r') bq _) rfl ?_
   simp (config := { maxSteps := 4000000 }) only [↓sxw,sxw,tf20,sxu,sxl,sxm,simprocAttr]
   intro b5
   refine wr_cell (A:=[]) rfl (by simp) ?_
   simp (config := { maxSteps := 4000000 }) only [↓sxw,sxw,tf20,sxu,sxl,sxm,simprocAttr]
   refine ld_cell List.mem_cons_self rfl ?_
   simp (config := { maxSteps := 4000000 }) only [↓sxw,sxw,tf20,sxu,sxl,sxm,simprocAttr]
   refine ⟨fun h=>h,by omega,?_⟩
   refine wr_cell (A:=[]) rfl (by simp) ?_
   simp (config := { maxSteps := 4000000 }) only [↓sxw,sxw,tf20,sxu,sxl,sxm,simprocAttr]
   have hmv:(∃ ad2 cp2,Value.slice (if cp = 1 then some ad else some (ad.add 1)) (r'.length + 1 - 1) (cp - 1) = .slice (some ad2) r'.length cp2):=by
    by_cases h:cp = 1
    ·exact ⟨ad,cp - 1,by rw [if_pos h]; rfl⟩
    ·exact ⟨ad.add 1,cp - 1,by rw [if_neg h]; rfl⟩
   refine ⟨(st',r',b5,_),_,rfl,?_,⟨?_,?_,hmv,rfl⟩,?_⟩
   ·simp only []
    rw [hFe,hFe]
    refine HImp.cons ((HImp.tail _ _ _).trans ?_)
    exact HImp.tailRow _ _ ad (r'.length + 1) cp 3 1 1 (ints (nts (u :: r'))) (by omega)
   ·simp only [List.length_cons] at hun0 ⊢
    omega
   ·simp only []
    cases r' with
    | nil=>
     refine ⟨hbf'.len,fun x hx=>?_,hbf'.val⟩
     obtain ⟨m,_,hm⟩:=isD_ex hAN hx
     exact bf_all hbf' m x hm.1
    | cons v r''=>exact bf_pop hbf'
   ·simp only [List.length_cons]
    omega
end Go.Proofs.YtljpknnhimkkjaaGreatDoor

namespace Go.Proofs.YtljpknnhimkkjaaGreatDoor
open Go.RowKit Go.SX
set_option maxRecDepth 4000
set_option maxHeartbeats 8000000
set_option linter.unusedSimpArgs false
set_option linter.unusedVariables false
def lv (l:List Int) (x:Nat):Int:=l.getD x 0
end Go.Proofs.YtljpknnhimkkjaaGreatDoor

namespace Go.Proofs.YtljpknnhimkkjaaGreatDoor
open Go.RowKit Go.SX
set_option maxRecDepth 4000
set_option maxHeartbeats 8000000
set_option linter.unusedSimpArgs false
set_option linter.unusedVariables false
noncomputable def detR (v:Value) (c:Cht):Nat → List Value → Option Value
 | 121,xs=>detN 121 xs
 | 191,xs=>detN 191 xs
 | 54,[.agg ⟨[.int .i64 a,.int .i64 b,_,_,_]⟩,.int .i64 n]=>some (.bool (isCellB a b n))
 | g,xs=>detM v c g xs
theorem detR_ok {v:Value} {c:Cht} {w0:World} {X:Nat → Prop} (hw:Ways w0) (hc:ChOk w0 v c) (hX:∀ b,b < w0.heap.size → ¬ X b):DetFn Tryz.prog ⟨w0,X⟩ (detR v c):=by
 intro g args r h w hk
 unfold detR at h
 split at h
 ·exact detN_ok hw (hX _ (ways_lt hw)) _ _ _ h w hk
 ·exact detN_ok hw (hX _ (ways_lt hw)) _ _ _ h w hk
 ·cases h
  exact det_of_fn (isCell_fn w _ _ _ _ _ _)
 ·exact detM_ok hc hX _ _ _ h w hk
theorem detR_eq (v:Value) (c:Cht):(∀ a b x y z n,detR v c 54 [.agg #[I a,I b,x,y,z],I n] = some (.bool (isCellB a b n))) ∧ (∀ a b x y z,detR v c 50 [.agg #[I a,I b,x,y,z]] = some (I (wr (a * b)))) ∧ (∀ n,detR v c 150 [I n] = some (.bool (inB n 1 100))) ∧
  (∀ a b x ad n c' z t,detR v c 169 [.agg #[I a,I b,x,.slice ad n c',z],I t] = some (.bool (inB t 0 (wr ((n:Int) - 1))))) ∧
  (∀ n l h:Int,detR v c 61 [I n,I l,I h] = some (.bool (inB n l h))) ∧ (∀ n l h:Int,detR v c 103 [I n,I l,I h] = some (.bool (inB n l h))):=⟨fun _ _ _ _ _ _=>rfl,fun _ _ _ _ _=>rfl,fun _=>rfl,fun _ _ _ _ _ _ _ _=>rfl,fun _ _ _=>rfl,fun _ _ _=>rfl⟩
theorem detR_beside (v:Value) (c:Cht) {W H k d:Nat} (hW:1 ≤ W ∧ W ≤ 12) (hH:1 ≤ H ∧ H ≤ 12) (hk:k < W * H) (hd:d < 6) (x y z:Value):
  detR v c 121 [.agg #[I W,I H,x,y,z],I k,I d] = some (besV W H k d) ∧ detR v c 191 [.agg #[I W,I H,x,y,z],I k,I d] = some (besV W H k d):=detN_eq hW hH hk hd x y z
theorem isCell_iff {c:Cht} (hok:c.ok) (n:Int):isCellB c.wide c.high n = !notCell c n:=by
 obtain ⟨eW,eH,hW,hH,hlen⟩:=hok.dims
 have hN:c.W * c.H ≤ 144:=Nat.mul_le_mul hW.2 hH.2
 have e:c.wide * c.high = ((c.depth.length:Nat):Int):=by rw [hok.2.2.1]
 unfold isCellB notCell
 rw [Bool.not_not,e,show wr ((c.depth.length:Nat):Int) = (c.depth.length:Int) from wrap_id (by omega),show wr ((c.depth.length:Int) - 1) = (c.depth.length:Int) - 1 from wrap_id (by omega)]
noncomputable def nextE (c:Cht) (k d:Int):Value:=
 if c.okB then (if notCell c k || !inB d 0 5 then .tuple #[I 0,I 1] else match bes c.W c.H k.toNat d.toNat with
  | some n=>.tuple #[I n,I 0]
  | none=>.tuple #[I 0,I 3]) else .tuple #[I 0,I 10]
end Go.Proofs.YtljpknnhimkkjaaGreatDoor

namespace Go.Proofs.YtljpknnhimkkjaaGreatDoor
open Go.RowKit Go.SX
set_option maxRecDepth 4000
set_option maxHeartbeats 8000000
set_option linter.unusedSimpArgs false
set_option linter.unusedVariables false
theorem openE1 {c:Cht} (a:Int):openE c [a] [] [] = if c.okB then (if notCell c a then 1 else 0) else 10:=by
 unfold openE
 try simp
theorem next1_fn (w:World) (hw:Ways w) (v:Value) (c:Cht) (hc:ChOk w v c) (hsm:c.small) (k d:Int):
  SX.Fn Tryz.prog 132 [v,I k,I d] w (fun _=>False) fun r N=>r = nextE c k d:=by
 have hc0:=hc
 have hD:=detR_ok (X:=fun _=>False) hw hc (fun _ _=>id)
 obtain ⟨sD,sT,sS,rfl,hsD,hsT,hsS⟩:=hc
 obtain ⟨aD,nD,cD,rfl⟩:=hsD.shape
 obtain ⟨aT,nT,cT,rfl⟩:=hsT.shape
 obtain ⟨aS,nS,cS,rfl⟩:=hsS.shape
 have hE:=openE1 (c:=c) k
 unfold nextE
 have dn:(∀ xs,detR (.agg #[I c.wide,I c.high,.slice aD nD cD,.slice aT nT cT,.slice aS nS cS]) c 63 xs = none):=fun _=>rfl
 refine walk [] [] hD Tryz.func132 rfl Tryz.ntmps132 res132 (by kernel_rfl) no_facts ?_
 simp (config := { maxSteps := 4000000 }) only [↓sxw,sxw,tf132,sxu,sxl,sxm,simprocAttr,dn]
 intro b1
 refine CallOb.pure (fun w' hp=>open_fn w' _ _ _ _ c [k] [] [] (hc0.hp hp) hsm (row_hp (E:=3) (xs:=ints [k]) (by simp [cat,i1]) hp) (Sl.nil _ _) (Sl.nil _ _) (by simp)) ?_
 rintro r N rfl
 cases hok:c.okB with
 | false=>
  rw [hok] at hE
  simp only [Bool.false_eq_true,if_false] at hE
  rw [hE]
  simp (config := { maxSteps := 4000000 }) only [↓sxw,sxw,tf132,sxu,sxl,sxm,simprocAttr]
 | true=>
 have hok':=(okB_iff c).1 hok
 rw [hok,if_pos rfl] at hE
 cases h1:notCell c k with
 | true=>
  rw [h1,if_pos rfl] at hE
  rw [hE]
  simp (config := { maxSteps := 4000000 }) only [↓sxw,sxw,tf132,sxu,sxl,sxm,simprocAttr]
 | false=>
 rw [h1] at hE
 simp only [Bool.false_eq_true,if_false] at hE
 rw [hE]
 cases h2:inB d 0 5 with
 | false=>simp (config := { maxSteps := 4000000 }) only [↓sxw,sxw,tf132,sxu,sxl,sxm,simprocAttr,detR_eq,h2]
 | true=>
 obtain ⟨eW,eH,hW,hH,hlen⟩:=hok'.dims
 have hk:0 ≤ k ∧ k ≤ (c.depth.length:Int) - 1:=by
  unfold notCell at h1
  rw [Bool.not_eq_false',inB_iff] at h1
  exact h1
 rw [inB_iff] at h2
 obtain ⟨K,hK⟩:∃ K:Nat,k = K:=⟨k.toNat,by omega⟩
 obtain ⟨D,hD'⟩:∃ D:Nat,d = D:=⟨d.toNat,by omega⟩
 subst hK hD'
 have h2':=(inB_iff (D:Int) 0 5).2 h2
 have hb:=(detR_beside (.agg #[I c.wide,I c.high,.slice aD nD cD,.slice aT nT cT,.slice aS nS cS]) c hW hH (k:=K) (d:=D) (by omega) (by omega) (.slice aD nD cD) (.slice aT nT cT) (.slice aS nS cS)).1
 rw [← eW,← eH] at hb
 cases hbe:bes c.W c.H K D with
 | none=>
  have hv:besV c.W c.H K D = .tuple #[I 0,.bool false]:=by unfold besV; rw [hbe]
  rw [hv] at hb
  simp (config := { maxSteps := 4000000 }) only [↓sxw,sxw,tf132,sxu,sxl,sxm,simprocAttr,detR_eq,h2',hb,hbe]
 | some n=>
  have hv:besV c.W c.H K D = .tuple #[I n,.bool true]:=by unfold besV; rw [hbe]
  rw [hv] at hb
  simp (config := { maxSteps := 4000000 }) only [↓sxw,sxw,tf132,sxu,sxl,sxm,simprocAttr,detR_eq,h2',hb,hbe]
def growL (l:List (Int × Int)) (t:Int):List (Int × Int):=match l[l.length - 1]? with
 | some p=>if p.2 = t - 1 then l.set (l.length - 1) (p.1,t) else l ++ [(t,t)]
 | none=>[(t,t)]
theorem grow_fn (w:World) (v:Value) (l:List (Int × Int)) (t:Nat) (hrow:HO.ok w (.row v 49 2 (cat spc l))) (hv:∃ ad c,v = .slice ad l.length c ∧ (ad = none → l = [])) (ht:t < 1000) (hl:l.length < 1000):
  SX.Fn Tryz.prog 62 [v,I t] w (fpsx [.row v 49 2 (cat spc l)]) fun r N=>∃ ad c,r = .slice ad (growL l t).length c ∧ (ad = none → growL l t = []) ∧ N = [HO.row r 49 2 (cat spc (growL l t))]:=by
 obtain ⟨ad,c,rfl,hnil⟩:=hv
 refine walk [] [] (det0_ok _ _) Tryz.func62 rfl Tryz.ntmps62 res62 (by kernel_rfl) (H0:=[.row (.slice ad l.length c) 49 2 (cat spc l)]) ⟨fun h hh=>by rw [List.mem_singleton] at hh; subst hh; exact hrow,fun h hh b hb=>⟨h,hh,by rw [List.mem_singleton] at hh; subst hh; exact hb⟩,List.pairwise_singleton _ _⟩ ?_
 have e1:wr ((t:Int) - 1) = (t:Int) - 1:=wrap_id (by omega)
 have happ:∀ (K:Value → List HO → Prop),(∀ ad1 c1,K (.slice (some ad1) (l.length + 1) c1) [.row (.slice (some ad1) (l.length + 1) c1) 49 2 (cat spc (l ++ [((t:Int),(t:Int))]))]) →
   ∀ b c0 z bytes,bytes = 16 → hold (AppOb ⟨w,fpsx [.row (.slice ad l.length c) 49 2 (cat spc l)]⟩ (some (49,2,z,bytes)) (.slice ad l.length c) (.slice (some ⟨b,0,none⟩) 1 c0) (.row (.slice (some ⟨b,0,none⟩) 1 c0) 49 2 [I t,I t] :: [.row (.slice ad l.length c) 49 2 (cat spc l)]) K) ⟨0⟩:=fun K hK b c0 z bytes hb=>
  app_one (l:=l) ((t:Int),(t:Int)) (HImp.refl _ _) spc_len spc_one (by subst hb; omega) fun ad1 c1=>hK ad1 c1
 by_cases h0:l = []
 ·subst h0
  have e0:(((0:Nat):Int) > 0) = False:=eq_false (by omega)
  simp (config := { maxSteps := 4000000 }) only [↓sxw,sxw,tf62,sxu,sxl,sxm,simprocAttr,e0]
  intro b
  refine happ _ (fun ad1 c1=>?_) b _ _ _ rfl
  simp (config := { maxSteps := 4000000 }) only [↓sxw,sxw,tf62,sxu,sxl,sxm,simprocAttr]
  first | exact ⟨some ad1,c1,rfl,(fun h=>by cases h),rfl⟩ | (intro h; cases h)
 have hlp:0 < l.length:=List.length_pos_iff.2 h0
 have e2:((l.length:Int) > 0) = True:=eq_true (by omega)
 have e3:wr ((l.length:Int) - 1) = ((l.length - 1:Nat):Int):=(wrap_id (by omega)).trans (by omega)
 obtain ⟨p,hp⟩:∃ p,l[l.length - 1]? = some p:=⟨_,List.getElem?_eq_getElem (by omega)⟩
 have hrd:∀ G,Rdv ⟨w,fpsx [.row (.slice ad l.length c) 49 2 (cat spc l)]⟩ (G ++ [.row (.slice ad l.length c) 49 2 (cat spc l)]) (.slice ad l.length c) 2 (cat spc l):=fun G=>row_rdv (E:=49) (by simp) ⟨_,_,_,rfl,by rw [cat_len spc_len],fun h=>by rw [hnil h]; rfl⟩
 have e4:((l.length - 1:Nat):Int) < (l.length:Int):=by omega
 simp (config := { maxSteps := 4000000 }) only [↓sxw,sxw,tf62,sxu,sxl,sxm,simprocAttr,e2,e3]
 refine at_f (hrd []) spc_len hp (o:=1) (x:=I p.2) rfl fun ad1=>?_
 by_cases hq:p.2 = (t:Int) - 1
 ·have e5:(p.2 = (t:Int) - 1) = True:=eq_true hq
  simp (config := { maxSteps := 4000000 }) only [↓sxw,sxw,tf62,sxu,sxl,sxm,simprocAttr,e1,e5,e3]
  have hg:growL l t = l.set (l.length - 1) (p.1,t):=by unfold growL; rw [hp]; simp [hq]
  rw [hg]
  cases ad with
  | none=>exact absurd (hnil rfl) h0
  | some ad2=>
  refine ⟨by omega,by omega,_,rfl,?_⟩
  refine wr_f1 (A:=[]) (B:=[]) (o:=1) (u:=p) (p.1,(t:Int)) rfl spc_len rfl hp rfl (by omega) ?_
  simp (config := { maxSteps := 4000000 }) only [↓sxw,sxw,tf62,sxu,sxl,sxm,simprocAttr]
  exact ⟨some ad2,c,by simp,(fun h=>by cases h)⟩
 ·have e5:(p.2 = (t:Int) - 1) = False:=eq_false hq
  simp (config := { maxSteps := 4000000 }) only [↓sxw,sxw,tf62,sxu,sxl,sxm,simprocAttr,e1,e5,e3]
  have hg:growL l t = l ++ [((t:Int),(t:Int))]:=by unfold growL; rw [hp]; simp [hq]
  rw [hg]
  intro b
  refine happ _ (fun ad3 c3=>?_) b _ _ _ rfl
  simp (config := { maxSteps := 4000000 }) only [↓sxw,sxw,tf62,sxu,sxl,sxm,simprocAttr]
  exact ⟨some ad3,c3,by simp,(fun h=>by cases h)⟩
end Go.Proofs.YtljpknnhimkkjaaGreatDoor

