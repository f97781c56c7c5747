/- Parts of a proof: the symbolic walk and what it shows of single functions. -/
import Derived.Test.YtljpknnhimkkjaaGreatDoorP1
import Derived.Test.YtljpknnhimkkjaaGreatDoorX3
set_option linter.all false
namespace Go.Proofs.YtljpknnhimkkjaaGreatDoor
open Go.RowKit Go.SX
set_option maxRecDepth 10000
set_option maxHeartbeats 8000000
set_option linter.unusedSimpArgs false
set_option linter.unusedVariables false
abbrev Frm:=Int × Int × Int
def frc (p:Frm):List Value:=[I p.1,I p.2.1,I p.2.2]
theorem frc_len (p:Frm):(frc p).length = 3:=rfl
theorem frc_one (p:Frm):∀ y ∈ frc p,y.oneCell' = true:=by simp [frc,Value.oneCell']
theorem tEF:elT Tryz.prog 235 = some (234,3,[.int .i64 0,.int .i64 0,.int .i64 0],24):=by kernel_rfl
theorem repeatF_fn (w:World) (v:Value) (x:Frm) (n:Nat) (hv:Sl w v 3 (cat frc [x])) (hn:n < 200) (h1:1 ≤ n):
  SX.Fn Tryz.prog 172 [v,I n] w (fun _=>False) fun r N=>∃ b,r = .slice (some ⟨b,0,none⟩) n n ∧ HO.row (.slice (some ⟨b,0,none⟩) n n) 234 3 (cat frc (List.replicate n x)) ∈ N:=by
 obtain ⟨a,n1,c1,rfl⟩:=hv.shape
 have hn1:=hv.le frc_len (by omega)
 simp only [List.length_cons,List.length_nil] at hn1
 subst hn1
 have e1:((n:Int) < 0) = False:=eq_false (by omega)
 have e2:IntKind.u64.wrap (n:Int) = n:=by
  rw [IntKind.wrap_u64]
  omega
 have e3:IntKind.u64.wrap ((0 + 1:Nat):Int) = 1:=by decide
 have e4:((n:Int) > 9223372036854775807) = False:=eq_false (by omega)
 have e5:wr (n:Int) = n:=wrap_id (by omega)
 have z0:(0,0,0) = (((0:Int),(0:Int),(0:Int)):Frm):=rfl
 refine walk [] [] (det0_ok _ _) Tryz.func172 rfl Tryz.ntmps172 res172 (by kernel_rfl) no_facts ?_
 simp (config := { maxSteps := 4000000 }) only [↓sxw,sxw,tf172,sxu,sxl,sxm,simprocAttr,e1,e2,e3,det0]
 refine CallOb.pure (fun w' hp=>mul_fn w' n hn) ?_
 rintro r N rfl
 simp (config := { maxSteps := 4000000 }) only [↓sxw,sxw,tf172,sxu,sxl,sxm,simprocAttr,e4,e5]
 refine ⟨by omega,by omega,by omega,fun b=>?_⟩
 have hz:zerosL (n:Int).toNat [Value.int IntKind.i64 0,Value.int IntKind.i64 0,Value.int IntKind.i64 0] = cat frc (List.replicate n (0,0,0)):=zeros_cat frc (0,0,0) _
 rw [hz,Int.toNat_natCast]
 have hmin:Nat.min 1 n = 1:=Nat.min_eq_left h1
 have hrep:∀ m k:Nat,m + k ≤ n → (cat frc (List.replicate m x ++ List.replicate (n - m) (0,0,0))).take (m * 3) ++ cat frc (List.replicate k x) ++ (cat frc (List.replicate m x ++ List.replicate (n - m) (0,0,0))).drop (m * 3 + (cat frc (List.replicate k x)).length) = cat frc (List.replicate (m + k) x ++ List.replicate (n - (m + k)) (0,0,0)):=by
  intro m k hmk
  have h1:=cat_take frc_len (List.replicate m x ++ List.replicate (n - m) ((0,0,0):Frm)) m
  have h2:=cat_drop frc_len (List.replicate m x ++ List.replicate (n - m) ((0,0,0):Frm)) (m + k)
  rw [Nat.add_mul] at h2
  rw [cat_len frc_len,List.length_replicate,h1,h2,← cat_append,← cat_append]
  congr 1
  rw [List.take_append_of_le_length (by simp),List.take_of_length_le (by simp),List.drop_append,List.drop_of_length_le (by simp),List.length_replicate,List.nil_append,List.drop_replicate,List.replicate_append_replicate]
  congr 2
  omega
 refine copy_rowW (T':=235) tEF (ad:=⟨b,0,none⟩) (o:=0) (A:=[]) (cat frc [x]) rfl (by rw [cat_len frc_len]; simp only [List.length_singleton]; omega) (by rw [hmin]; rfl) (by rw [cat_len frc_len]; simp) (fun w' hp=>⟨_,hv.hp (fun _ _=>id) hp,by rw [hmin]; rfl⟩) (by simp [frc,cat,sxo]) ?_
 have h0:=hrep 0 1 (by omega)
 rw [List.replicate_zero,List.nil_append,Nat.sub_zero,Nat.zero_mul] at h0
 rw [show cat frc [x] = cat frc (List.replicate 1 x) from rfl,h0,hmin]
 simp (config := { maxSteps := 4000000 }) only [↓sxw,sxw,tf172,sxu,sxl,sxm,simprocAttr]
 refine loop_const [(8,8),(34,46)] (fun m:Nat=>[(8,I m)]) (fun m H1=>1 ≤ m ∧ m ≤ n ∧ H1 = [HO.row (.slice (some ⟨b,0,none⟩) n n) 234 3 (cat frc (List.replicate m x ++ List.replicate (n - m) (0,0,0)))] ++ N) (fun m=>n - m) 1 ?_ ⟨by omega,by omega,rfl⟩ ?_
 ·simp (config := { maxSteps := 4000000 }) only [↓sxw,sxw,tf172,sxu,sxl,sxm,simprocAttr]
  try simp
 ·rintro m H1 g ⟨hm1,hmn,rfl⟩
  by_cases hme:m = n
  ·subst hme
   have e7:((m:Int) < (m:Int)) = False:=eq_false (by omega)
   simp (config := { maxSteps := 4000000 }) only [↓sxw,sxw,tf172,sxu,sxl,sxm,simprocAttr,e7]
   refine ⟨b,rfl,?_⟩
   try simp
  ·have e7:((m:Int) < (n:Int)) = True:=eq_true (by omega)
   simp (config := { maxSteps := 4000000 }) only [↓sxw,sxw,tf172,sxu,sxl,sxm,simprocAttr,e7]
   refine ⟨fun h=>h,by omega,by omega,by omega,by omega,?_⟩
   rw [show (if n = m then some (⟨b,0,none⟩:Addr) else some ((⟨b,0,none⟩:Addr).add (m * 3))) = some ((⟨b,0,none⟩:Addr).add (m * 3)) by rw [if_neg (by omega)],
    show (if n = 0 then some (⟨b,0,none⟩:Addr) else some ((⟨b,0,none⟩:Addr).add 0)) = some ((⟨b,0,none⟩:Addr).add 0) from if_neg (by omega)]
   have hmin2:Nat.min (m - 0) (n - m) = min m (n - m):=rfl
   generalize hke:min m (n - m) = k at hmin2
   have hkb:1 ≤ k ∧ m + k ≤ n ∧ k ≤ m:=by omega
   refine copy_rowW (T':=235) tEF (A:=[]) (cat frc (List.replicate k x)) rfl (by rw [cat_len frc_len,List.length_replicate]; omega) (by rw [hmin2,cat_len frc_len,List.length_replicate]) (by rw [cat_len frc_len,List.length_replicate]; omega) (fun w' hp=>⟨_,(row_hp (E:=234) List.mem_cons_self hp).pre (m:=m) (by omega),?_⟩) (by intro v hv; rw [cat] at hv; simp only [List.mem_flatMap] at hv; obtain ⟨y,_,hy⟩:=hv; exact frc_one _ _ hy) ?_
   ·rw [hmin2,cat_take frc_len]
    have:=cat_take frc_len ((List.replicate m x ++ List.replicate (n - m) ((0,0,0):Frm)).take m) k
    rw [this,List.take_take,List.take_append_of_le_length (by simp; omega),List.take_replicate]
    congr 2
    omega
   rw [hrep m k hkb.2.1,hmin2]
   have e8:wr ((m:Int) + ((k:Nat):Int)) = ((m + k:Nat):Int):=(wrap_id (by omega)).trans (by omega)
   simp (config := { maxSteps := 4000000 }) only [↓sxw,sxw,tf172,sxu,sxl,sxm,simprocAttr,e8]
   exact ⟨m + k,_,rfl,HImp.refl _ _,⟨by omega,by omega,rfl⟩,by omega⟩
def stN (cell stay:Int) (at_ before:Int):Int:=if before > stay then before else if at_ = cell then before + 1 else 0
theorem stays_fn (w:World) (cell stay at_ before:Int) (hb:0 ≤ before ∧ before ≤ 1000):SX.Fn Tryz.prog 173 [.agg #[I cell,I stay],I at_,I before] w (fun _=>False) fun r N=>r = I (stN cell stay at_ before):=by
 have e1:wr (before + 1) = before + 1:=wrap_id (by omega)
 unfold stN
 refine walk [] [] (det0_ok _ _) Tryz.func173 rfl Tryz.ntmps173 res173 (by kernel_rfl) no_facts ?_
 by_cases h1:before > stay
 ·have p1:(before > stay) = True:=eq_true h1
  rw [if_pos h1]
  simp (config := { maxSteps := 4000000 }) only [↓sxw,sxw,tf173,sxu,sxl,sxm,simprocAttr,p1]
 ·have p1:(before > stay) = False:=eq_false h1
  rw [if_neg h1]
  by_cases h2:at_ = cell
  ·have p2:(at_ = cell) = True:=eq_true h2
   rw [if_pos h2]
   simp (config := { maxSteps := 4000000 }) only [↓sxw,sxw,tf173,sxu,sxl,sxm,simprocAttr,p1,p2,e1]
  ·have p2:(at_ = cell) = False:=eq_false h2
   rw [if_neg h2]
   simp (config := { maxSteps := 4000000 }) only [↓sxw,sxw,tf173,sxu,sxl,sxm,simprocAttr,p1,p2]
end Go.Proofs.YtljpknnhimkkjaaGreatDoor

namespace Go.Proofs.YtljpknnhimkkjaaGreatDoor
open Go.RowKit Go.SX
set_option maxRecDepth 10000
set_option maxHeartbeats 4000000
set_option linter.unusedSimpArgs false
set_option linter.unusedVariables false
structure Vg where
 c:Cht
 b:Cls
 k:Nat
 t:Nat
 tc:Nat
 ts:Nat
def Vg.n (g:Vg):Nat:=g.c.depth.length
def Vg.st (g:Vg) (y s:Nat):Nat:=if s > g.ts then s else if y = g.tc then s + 1 else 0
def Vg.wg (g:Vg) (x y:Nat):Int:=if y = x then g.b.idle else g.b.move
inductive Vg.R (g:Vg):Nat → Nat → Nat → Int → Prop
 | zero:g.R 0 (g.st g.k 0) g.k 0
 | step {i s x y:Nat} {B:Int}:g.R i s x B → y ∈ nbL g.c.W g.c.H x → canB g.c g.b (g.t + i + 1) y = true → g.R (i + 1) (g.st y s) y (B + g.wg x y)
structure Vg.Ok (g:Vg):Prop where
 ok:g.c.ok
 cls:clsB g.b = true
 k:g.k < g.c.depth.length
 t:g.t < g.c.tide.length
 tc:g.tc < g.c.depth.length
 ts:g.ts ≤ 8
theorem Vg.st_le (g:Vg) {y s:Nat} (h:s < g.ts + 2):g.st y s < g.ts + 2:=by
 unfold Vg.st
 split
 ·omega
 ·split <;> omega
theorem Vg.wg_bd {g:Vg} (h:g.Ok) (x y:Nat):0 ≤ g.wg x y ∧ g.wg x y ≤ 100:=by
 have:=(clsB_iff g.b).1 h.cls
 unfold Vg.wg
 split <;> omega
theorem nb_lt {g:Vg} (h:g.Ok) {x y:Nat} (hx:x < g.c.depth.length) (hy:y ∈ nbL g.c.W g.c.H x):y < g.c.depth.length:=by
 have hd:=h.ok.dims
 have:=nbL_lt (W:=g.c.W) (H:=g.c.H) (k:=x) (by omega) y hy
 omega
theorem Vg.R_bd {g:Vg} (h:g.Ok) {i s x:Nat} {B:Int} (hr:g.R i s x B):s < g.ts + 2 ∧ x < g.c.depth.length ∧ 0 ≤ B ∧ B ≤ 100 * i:=by
 induction hr with
 | zero=>exact ⟨g.st_le (by omega),h.k,by omega,by omega⟩
 | @step i s x y B _ hy _ ih=>
  have h1:=g.wg_bd h x y
  have h2:=ih.2.2
  exact ⟨g.st_le ih.1,nb_lt h ih.2.1 hy,by omega,by omega⟩
def nvr:Int:=1073741824
def en (R:List (List Frm)) (s x:Nat):Frm:=(R.getD s []).getD x (0,0,0)
def setE (R:List (List Frm)) (s x:Nat) (e:Frm):List (List Frm):=R.set s ((R.getD s []).set x e)
def Vg.shape (g:Vg) (R:List (List Frm)):Prop:=R.length = g.ts + 2 ∧ ∀ s,s < g.ts + 2 → (R.getD s []).length = g.c.depth.length
theorem getD_set {α:Type} {l:List α} {i j:Nat} {x d:α} (hi:i < l.length):(l.set i x).getD j d = if i = j then x else l.getD j d:=by
 rw [List.getD_eq_getElem?_getD,List.getD_eq_getElem?_getD,List.getElem?_set]
 split
 ·rename_i h
  subst h
  simp [hi]
 ·rfl
theorem en_set {g:Vg} {R:List (List Frm)} (h:g.shape R) {s x s' x':Nat} (hs:s < g.ts + 2) (hx:x < g.c.depth.length) (e:Frm):en (setE R s x e) s' x' = if s = s' ∧ x = x' then e else en R s' x':=by
 unfold en setE
 rw [getD_set (by rw [h.1]; exact hs)]
 by_cases h1:s = s'
 ·subst h1
  rw [if_pos rfl,getD_set (by rw [h.2 s hs]; exact hx)]
  by_cases h2:x = x'
  ·rw [if_pos h2,if_pos ⟨rfl,h2⟩]
  ·rw [if_neg h2,if_neg fun h=>h2 h.2]
 ·rw [if_neg h1,if_neg fun h=>h1 h.1]
theorem shape_set {g:Vg} {R:List (List Frm)} (h:g.shape R) {s x:Nat} (hs:s < g.ts + 2) (e:Frm):g.shape (setE R s x e):=by
 refine ⟨by unfold setE; rw [List.length_set]; exact h.1,fun s' hs'=>?_⟩
 unfold setE
 rw [getD_set (by rw [h.1]; exact hs)]
 split
 ·rw [List.length_set,h.2 s hs]
 ·exact h.2 s' hs'
structure Vg.Tab (g:Vg) (i:Nat) (R:List (List Frm)):Prop where
 shape:g.shape R
 least:∀ s x B,g.R i s x B → (en R s x).1 ≤ B
 att:∀ s x,s < g.ts + 2 → x < g.c.depth.length → (en R s x).1 ≠ nvr → g.R i s x (en R s x).1
theorem Vg.Tab.bd {g:Vg} (h:g.Ok) {i:Nat} {R:List (List Frm)} (hT:g.Tab i R) {s x:Nat} (hs:s < g.ts + 2) (hx:x < g.c.depth.length):(en R s x).1 = nvr ∨ 0 ≤ (en R s x).1 ∧ (en R s x).1 ≤ 100 * i:=by
 by_cases h0:(en R s x).1 = nvr
 ·exact .inl h0
 ·have:=g.R_bd h (hT.att s x hs hx h0)
  exact .inr ⟨this.2.2.1,this.2.2.2⟩
def Vg.Prd (g:Vg) (i:Nat) (R R':List (List Frm)):Prop:=∀ s y,s < g.ts + 2 → y < g.c.depth.length → (en R' s y).1 ≠ nvr → ∃ x s0:Nat,(en R' s y).2 = ((x:Int),(s0:Int)) ∧ x < g.c.depth.length ∧ s0 < g.ts + 2 ∧ (en R s0 x).1 ≠ nvr ∧ y ∈ nbL g.c.W g.c.H x ∧ canB g.c g.b (g.t + i + 1) y = true ∧ s = g.st y s0 ∧ (en R' s y).1 = (en R s0 x).1 + g.wg x y
structure Vg.Nxt (g:Vg) (i:Nat) (R:List (List Frm)) (done:Nat → Nat → Nat → Prop) (N:List (List Frm)):Prop where
 shape:g.shape N
 prd:g.Prd i R N
 low:∀ s0 x0 j y,done s0 x0 j → s0 < g.ts + 2 → x0 < g.c.depth.length → (en R s0 x0).1 ≠ nvr → (nbL g.c.W g.c.H x0)[j]? = some y → canB g.c g.b (g.t + i + 1) y = true → (en N (g.st y s0) y).1 ≤ (en R s0 x0).1 + g.wg x0 y
 top:∀ s x,(en N s x).1 ≤ nvr
def Vg.void (g:Vg):List (List Frm):=List.replicate (g.ts + 2) (List.replicate g.c.depth.length (nvr,0,0))
theorem Vg.void_shape (g:Vg):g.shape g.void:=by
 refine ⟨List.length_replicate,fun s hs=>?_⟩
 unfold Vg.void
 rw [List.getD_eq_getElem?_getD,List.getElem?_replicate,if_pos hs,Option.getD_some,List.length_replicate]
theorem Vg.void_en (g:Vg) {s x:Nat} (hs:s < g.ts + 2) (hx:x < g.c.depth.length):en g.void s x = (nvr,0,0):=by
 unfold en Vg.void
 rw [List.getD_eq_getElem?_getD (l:=List.replicate (g.ts + 2) _),List.getElem?_replicate,if_pos hs,Option.getD_some,List.getD_eq_getElem?_getD,List.getElem?_replicate,if_pos hx,Option.getD_some]
theorem Vg.void_le (g:Vg) (s x:Nat):(en g.void s x).1 ≤ nvr:=by
 by_cases hs:s < g.ts + 2
 ·by_cases hx:x < g.c.depth.length
  ·rw [g.void_en hs hx]
   exact Int.le_refl _
  ·unfold en Vg.void
   rw [List.getD_eq_getElem?_getD (l:=List.replicate (g.ts + 2) _),List.getElem?_replicate,if_pos hs,Option.getD_some,List.getD_eq_getElem?_getD,List.getElem?_replicate,if_neg hx]
   decide
 ·unfold en Vg.void
  rw [List.getD_eq_getElem?_getD (l:=List.replicate (g.ts + 2) _),List.getElem?_replicate,if_neg hs]
  show (0:Int) ≤ nvr
  decide
theorem Vg.Nxt.init (g:Vg) (i:Nat) (R:List (List Frm)):g.Nxt i R (fun _ _ _=>False) g.void:=
 ⟨g.void_shape,fun s y hs hy h=>absurd (congrArg Prod.fst (g.void_en hs hy)) h,fun _ _ _ _ h=>h.elim,g.void_le⟩
theorem Vg.Nxt.mono {g:Vg} {i:Nat} {R N:List (List Frm)} {d d':Nat → Nat → Nat → Prop} (h:g.Nxt i R d N) (hd:∀ s0 x0 j,d' s0 x0 j → s0 < g.ts + 2 → x0 < g.c.depth.length → (en R s0 x0).1 ≠ nvr → j < (nbL g.c.W g.c.H x0).length → d s0 x0 j):g.Nxt i R d' N:=
 ⟨h.shape,h.prd,fun s0 x0 j y h1 h2 h3 h4 h5 h6=>h.low s0 x0 j y (hd s0 x0 j h1 h2 h3 h4 (List.getElem?_eq_some_iff.1 h5).1) h2 h3 h4 h5 h6,h.top⟩
theorem Vg.Nxt.skip {g:Vg} {i:Nat} {R N:List (List Frm)} {d:Nat → Nat → Nat → Prop} (h:g.Nxt i R d N) {S X J y:Nat} (hy:(nbL g.c.W g.c.H X)[J]? = some y) (hc:canB g.c g.b (g.t + i + 1) y = true → (en N (g.st y S) y).1 ≤ (en R S X).1 + g.wg X y):g.Nxt i R (fun s x j=>d s x j ∨ s = S ∧ x = X ∧ j = J) N:=by
 refine ⟨h.shape,h.prd,fun s0 x0 j z h1 h2 h3 h4 h5 h6=>?_,h.top⟩
 rcases h1 with h1 | ⟨rfl,rfl,rfl⟩
 ·exact h.low s0 x0 j z h1 h2 h3 h4 h5 h6
 ·rw [hy] at h5
  cases h5
  exact hc h6
theorem Vg.Nxt.better {g:Vg} {i:Nat} {R N:List (List Frm)} {d:Nat → Nat → Nat → Prop} (h:g.Nxt i R d N) {S X J y:Nat} (hS:S < g.ts + 2) (hX:X < g.c.depth.length) (hyn:y < g.c.depth.length) (hR:(en R S X).1 ≠ nvr) (hy:(nbL g.c.W g.c.H X)[J]? = some y) (hc:canB g.c g.b (g.t + i + 1) y = true) (hlt:(en R S X).1 + g.wg X y < (en N (g.st y S) y).1):g.Nxt i R (fun s x j=>d s x j ∨ s = S ∧ x = X ∧ j = J) (setE N (g.st y S) y ((en R S X).1 + g.wg X y,(X:Int),(S:Int))):=by
 have hst:=g.st_le (y:=y) hS
 have hen:=fun s' x'=>en_set h.shape (s':=s') (x':=x') hst hyn ((en R S X).1 + g.wg X y,(X:Int),(S:Int))
 refine ⟨shape_set h.shape hst _,fun s z hs hz h1=>?_,fun s0 x0 j z h1 h2 h3 h4 h5 h6=>?_,fun s z=>?_⟩
 ·rw [hen] at h1 ⊢
  by_cases hk:g.st y S = s ∧ y = z
  ·rw [if_pos hk] at h1 ⊢
   obtain ⟨rfl,rfl⟩:=hk
   exact ⟨X,S,rfl,hX,hS,hR,List.mem_of_getElem? hy,hc,rfl,rfl⟩
  ·rw [if_neg hk] at h1 ⊢
   exact h.prd s z hs hz h1
 ·rw [hen]
  by_cases hk:g.st y S = g.st z s0 ∧ y = z
  ·rw [if_pos hk]
   rcases h1 with h1 | ⟨rfl,rfl,rfl⟩
   ·have:=h.low s0 x0 j z h1 h2 h3 h4 h5 h6
    obtain ⟨hk1,rfl⟩:=hk
    rw [← hk1] at this
    simp only []
    omega
   ·rw [hy] at h5
    cases h5
    exact Int.le_refl _
  ·rw [if_neg hk]
   rcases h1 with h1 | ⟨rfl,rfl,rfl⟩
   ·exact h.low s0 x0 j z h1 h2 h3 h4 h5 h6
   ·rw [hy] at h5
    cases h5
    exact absurd ⟨rfl,rfl⟩ hk
 ·rw [hen]
  split
  ·have:=h.top (g.st y S) y
   simp only []
   omega
  ·exact h.top s z
theorem Vg.Nxt.tab {g:Vg} (hg:g.Ok) {i:Nat} {R N:List (List Frm)} {d:Nat → Nat → Nat → Prop} (hi:i ≤ 100) (hT:g.Tab i R) (h:g.Nxt i R d N) (hd:∀ s x j,s < g.ts + 2 → d s x j):g.Tab (i + 1) N:=by
 refine ⟨h.shape,fun s x B hr=>?_,fun s x hs hx h0=>?_⟩
 ·cases hr with
  | @step _ s0 x0 _ B0 hr hy hc=>
   have hb:=g.R_bd hg hr
   have hl:=hT.least s0 x0 B0 hr
   have hne:(en R s0 x0).1 ≠ nvr:=by unfold nvr; omega
   obtain ⟨j,hj⟩:=List.getElem?_of_mem hy
   have:=h.low s0 x0 j x (hd s0 x0 j hb.1) hb.1 hb.2.1 hne hj hc
   omega
 ·obtain ⟨y,s0,h1,h2,h3,h4,h5,h6,h7,h8⟩:=h.prd s x hs hx h0
  rw [h8]
  have:=Vg.R.step (hT.att s0 y h3 h2 h4) h5 h6
  rw [← h7] at this
  exact this
theorem Vg.Tab.first {g:Vg} (hg:g.Ok):g.Tab 0 (setE g.void (g.st g.k 0) g.k (0,0,0)):=by
 have hst:=g.st_le (y:=g.k) (s:=0) (by omega)
 have hen:=fun s' x'=>en_set g.void_shape (s':=s') (x':=x') hst hg.k (0,0,0)
 refine ⟨shape_set g.void_shape hst _,fun s x B hr=>?_,fun s x hs hx h0=>?_⟩
 ·cases hr with
  | zero=>
   rw [hen,if_pos ⟨rfl,rfl⟩]
   exact Int.le_refl _
 ·rw [hen] at h0 ⊢
  by_cases hk:g.st g.k 0 = s ∧ g.k = x
  ·obtain ⟨rfl,rfl⟩:=hk
   rw [if_pos ⟨rfl,rfl⟩]
   exact Vg.R.zero
  ·rw [if_neg hk,g.void_en hs hx] at h0
   exact absurd rfl h0
end Go.Proofs.YtljpknnhimkkjaaGreatDoor

namespace Go.Proofs.YtljpknnhimkkjaaGreatDoor
open Go.RowKit Go.SX
set_option maxRecDepth 10000
set_option maxHeartbeats 0
set_option linter.unusedSimpArgs false
set_option linter.unusedVariables false
def FR (n:Nat) (aa:List Addr) (R:List (List Frm)):List HO:=List.zipWith (fun a l=>HO.row (.slice (some a) n n) 234 3 (cat frc l)) aa R
def aq (n:Nat) (a:Addr):Option Addr × Nat × Nat:=(some a,n,n)
theorem FR_append (n:Nat) (aa bs:List Addr) (R S:List (List Frm)) (h:aa.length = R.length):FR n (aa ++ bs) (R ++ S) = FR n aa R ++ FR n bs S:=by
 unfold FR
 exact List.zipWith_append h
theorem FR_at {n:Nat} {aa:List Addr} {R:List (List Frm)} (h:aa.length = R.length) {s:Nat} (hs:s < aa.length):FR n aa R = FR n (aa.take s) (R.take s) ++ HO.row (.slice (some (aa[s])) n n) 234 3 (cat frc (R.getD s [])) :: FR n (aa.drop (s + 1)) (R.drop (s + 1)):=by
 have h1:aa = aa.take s ++ aa[s] :: aa.drop (s + 1):=by rw [List.getElem_cons_drop,List.take_append_drop]
 have h2:R = R.take s ++ R.getD s [] :: R.drop (s + 1):=by
  rw [List.getD_eq_getElem?_getD,List.getElem?_eq_getElem (by omega),Option.getD_some,List.getElem_cons_drop,List.take_append_drop]
 conv=>lhs; rw [h1,h2]
 rw [FR_append _ _ _ _ _ (by rw [List.length_take,List.length_take,h])]
 try rfl
theorem FR_set {n:Nat} {aa:List Addr} {R:List (List Frm)} (h:aa.length = R.length) {s:Nat} (hs:s < aa.length) (l:List Frm):FR n aa (R.set s l) = FR n (aa.take s) (R.take s) ++ HO.row (.slice (some (aa[s])) n n) 234 3 (cat frc l) :: FR n (aa.drop (s + 1)) (R.drop (s + 1)):=by
 have h1:=FR_at (n:=n) (R:=R.set s l) (by rw [List.length_set]; exact h) hs
 rw [h1,getD_set (by omega),if_pos rfl,List.take_set_of_le (Nat.le_refl _),List.drop_set_of_lt (by omega)]
theorem FR_mem {n:Nat} {aa:List Addr} {R:List (List Frm)} (h:aa.length = R.length) {s:Nat} (hs:s < aa.length):HO.row (.slice (some (aa[s])) n n) 234 3 (cat frc (R.getD s [])) ∈ FR n aa R:=by
 rw [FR_at h hs]
 try simp
theorem void_len (g:Vg):g.void.length = g.ts + 2:=List.length_replicate
theorem rows5_fn (w:World) (bk bx bs:Nat) (g:Vg) (hg:g.Ok) (aD:Option Addr) (cD:Nat) (hk:w.cell? ⟨bk,1,none⟩ = some (I g.ts)) (hx:w.cell? ⟨bx,0,none⟩ = some (.pointer (some ⟨bs,0,none⟩))) (hs:w.cell? ⟨bs,2,none⟩ = some (.slice aD g.c.depth.length cD)):
  SX.Fn Tryz.prog 171 [.pointer (some ⟨bk,0,none⟩),.pointer (some ⟨bx,0,none⟩)] w (fun _=>False) fun r N=>∃ b aa,r = .slice (some ⟨b,0,none⟩) (g.ts + 2) (g.ts + 2) ∧ aa.length = g.ts + 2 ∧ N = HO.row (.slice (some ⟨b,0,none⟩) (g.ts + 2) (g.ts + 2)) 235 1 (cat slq (aa.map (aq g.c.depth.length))) :: FR g.c.depth.length aa g.void:=by
 have hts:=hg.ts
 have hk0:=hg.k
 have h144:g.c.depth.length < 200:=by have:=hg.ok.dims; obtain ⟨_,_,h1,h2,h3⟩:=this; rw [h3]; exact Nat.lt_of_le_of_lt (Nat.mul_le_mul h1.2 h2.2) (by decide)
 have e1:wr ((g.ts:Int) + 2) = ((g.ts + 2:Nat):Int):=(wrap_id (by omega)).trans (by omega)
 have dn:∀ (g:Nat) (xs:List Value),det0 g xs = none:=fun _ _=>rfl
 refine walk [] [] (det0_ok _ _) Tryz.func171 rfl Tryz.ntmps171 res171 (by kernel_rfl) no_facts ?_
 simp (config := { maxSteps := 4000000 }) only [↓sxw,sxw,tf171,sxu,sxl,sxm,Int.reduceBEq,Int.reduceBNe,Int.reduceLT,Int.reduceLE,Int.reduceEq,Int.reduceGT,Int.reduceGE,Int.reduceToNat,↓reduceIte,List.reduceReplicate,Nat.reduceAdd,Nat.reduceSub,Nat.reduceMul,Nat.reduceLT,Nat.reduceLeDiff,Nat.reduceBEq,Nat.reduceEqDiff]
 refine ld_olda (by simp [add_block]) hk id ?_
 simp (config := { maxSteps := 4000000 }) only [↓sxw,sxw,tf171,sxu,sxl,sxm,Int.reduceBEq,Int.reduceBNe,Int.reduceLT,Int.reduceLE,Int.reduceEq,Int.reduceGT,Int.reduceGE,Int.reduceToNat,↓reduceIte,List.reduceReplicate,Nat.reduceAdd,Nat.reduceSub,Nat.reduceMul,Nat.reduceLT,Nat.reduceLeDiff,Nat.reduceBEq,Nat.reduceEqDiff,e1]
 refine ⟨by omega,by omega,by omega,fun b=>?_⟩
 have hz:zerosL (g.ts + 2) [Value.slice none 0 0] = cat slq (([]:List Addr).map (aq g.c.depth.length) ++ List.replicate (g.ts + 2 - 0) (none,0,0)):=by
  rw [List.map_nil,List.nil_append,Nat.sub_zero]
  exact zeros_cat slq (none,0,0) _
 refine loop_constH [HO.row (.slice (some ⟨b,0,none⟩) (g.ts + 2) (g.ts + 2)) 235 1 (cat slq (([]:List Addr).map (aq g.c.depth.length) ++ List.replicate (g.ts + 2 - 0) (none,0,0)))] (by rw [← hz]; exact HImp.refl _ _) [(4,4),(11,26)] (fun q:Nat × List Addr=>[(11,I q.1)])
  (fun q H1=>q.1 ≤ g.ts + 2 ∧ q.2.length = q.1 ∧ H1 = HO.row (.slice (some ⟨b,0,none⟩) (g.ts + 2) (g.ts + 2)) 235 1 (cat slq (q.2.map (aq g.c.depth.length) ++ List.replicate (g.ts + 2 - q.1) (none,0,0))) :: FR g.c.depth.length q.2 (List.replicate q.1 (List.replicate g.c.depth.length (nvr,0,0)))) (fun q=>g.ts + 2 - q.1) (0,[]) ?_ ⟨Nat.zero_le _,rfl,rfl⟩ ?_
 ·simp (config := { maxSteps := 4000000 }) only [↓sxw,sxw,tf171,sxu,sxl,sxm,Int.reduceBEq,Int.reduceBNe,Int.reduceLT,Int.reduceLE,Int.reduceEq,Int.reduceGT,Int.reduceGE,Int.reduceToNat,↓reduceIte,List.reduceReplicate,Nat.reduceAdd,Nat.reduceSub,Nat.reduceMul,Nat.reduceLT,Nat.reduceLeDiff,Nat.reduceBEq,Nat.reduceEqDiff]
  try simp
 rintro ⟨i,aa⟩ H1 g1 hinv
 simp only [] at hinv
 obtain ⟨hi,hal,rfl⟩:=hinv
 by_cases hin:i = g.ts + 2
 ·have e7:((i:Int) < ((g.ts + 2:Nat):Int)) = False:=eq_false (by omega)
  refine ⟨?_⟩
  simp (config := { maxSteps := 4000000 }) only [↓sxw,sxw,tf171,sxu,sxl,sxm,Int.reduceBEq,Int.reduceBNe,Int.reduceLT,Int.reduceLE,Int.reduceEq,Int.reduceGT,Int.reduceGE,Int.reduceToNat,↓reduceIte,List.reduceReplicate,Nat.reduceAdd,Nat.reduceSub,Nat.reduceMul,Nat.reduceLT,Nat.reduceLeDiff,Nat.reduceBEq,Nat.reduceEqDiff,e7]
  refine ⟨b,aa,rfl,by omega,?_⟩
  rw [hin,Nat.sub_self,List.replicate_zero,List.append_nil]
  try rfl
 have e7:((i:Int) < ((g.ts + 2:Nat):Int)) = True:=eq_true (by omega)
 have e2:wr (i + 1) = ((i + 1:Nat):Int):=(wrap_id (by omega)).trans (by omega)
 refine ⟨?_⟩
 simp (config := { maxSteps := 4000000 }) only [↓sxw,sxw,tf171,sxu,sxl,sxm,Int.reduceBEq,Int.reduceBNe,Int.reduceLT,Int.reduceLE,Int.reduceEq,Int.reduceGT,Int.reduceGE,Int.reduceToNat,↓reduceIte,List.reduceReplicate,Nat.reduceAdd,Nat.reduceSub,Nat.reduceMul,Nat.reduceLT,Nat.reduceLeDiff,Nat.reduceBEq,Nat.reduceEqDiff,e7]
 intro b2
 refine ld_olda (by simp [add_block]) hx id ?_
 simp (config := { maxSteps := 4000000 }) only [↓sxw,sxw,tf171,sxu,sxl,sxm,Int.reduceBEq,Int.reduceBNe,Int.reduceLT,Int.reduceLE,Int.reduceEq,Int.reduceGT,Int.reduceGE,Int.reduceToNat,↓reduceIte,List.reduceReplicate,Nat.reduceAdd,Nat.reduceSub,Nat.reduceMul,Nat.reduceLT,Nat.reduceLeDiff,Nat.reduceBEq,Nat.reduceEqDiff]
 refine ld_olda (by simp [add_block]) hs id ?_
 simp (config := { maxSteps := 4000000 }) only [↓sxw,sxw,tf171,sxu,sxl,sxm,Int.reduceBEq,Int.reduceBNe,Int.reduceLT,Int.reduceLE,Int.reduceEq,Int.reduceGT,Int.reduceGE,Int.reduceToNat,↓reduceIte,List.reduceReplicate,Nat.reduceAdd,Nat.reduceSub,Nat.reduceMul,Nat.reduceLT,Nat.reduceLeDiff,Nat.reduceBEq,Nat.reduceEqDiff,dn]
 refine CallOb.pureH (fun w' hp=>repeatF_fn w' _ (1073741824,0,0) g.c.depth.length (row_hp (E:=234) List.mem_cons_self hp) h144 (by omega)) ?_
 rintro r N ⟨b3,rfl,hm⟩
 have hll:(aa.map (aq g.c.depth.length) ++ List.replicate (g.ts + 2 - i) ((none,0,0):Option Addr × Nat × Nat)).length = g.ts + 2:=by
  rw [List.length_append,List.length_map,List.length_replicate]; omega
 have hset:(aa.map (aq g.c.depth.length) ++ List.replicate (g.ts + 2 - i) ((none,0,0):Option Addr × Nat × Nat)).set i (aq g.c.depth.length ⟨b3,0,none⟩) = (aa ++ [(⟨b3,0,none⟩:Addr)]).map (aq g.c.depth.length) ++ List.replicate (g.ts + 2 - (i + 1)) (none,0,0):=by
  rw [List.set_append,if_neg (by rw [List.length_map]; omega),List.length_map,hal,Nat.sub_self,show g.ts + 2 - i = (g.ts + 2 - (i + 1)) + 1 by omega,List.replicate_succ,List.set_cons_zero,List.map_append,List.append_assoc]
  try rfl
 have hfr:FR g.c.depth.length (aa ++ [(⟨b3,0,none⟩:Addr)]) (List.replicate (i + 1) (List.replicate g.c.depth.length (nvr,0,0))) = FR g.c.depth.length aa (List.replicate i (List.replicate g.c.depth.length (nvr,0,0))) ++ [HO.row (.slice (some ⟨b3,0,none⟩) g.c.depth.length g.c.depth.length) 234 3 (cat frc (List.replicate g.c.depth.length (nvr,0,0)))]:=by
  rw [List.replicate_succ',FR_append _ _ _ _ _ (by rw [List.length_replicate,hal])]
  try rfl
 refine ⟨?_⟩
 simp (config := { maxSteps := 4000000 }) only [↓sxw,sxw,tf171,sxu,sxl,sxm,Int.reduceBEq,Int.reduceBNe,Int.reduceLT,Int.reduceLE,Int.reduceEq,Int.reduceGT,Int.reduceGE,Int.reduceToNat,↓reduceIte,List.reduceReplicate,Nat.reduceAdd,Nat.reduceSub,Nat.reduceMul,Nat.reduceLT,Nat.reduceLeDiff,Nat.reduceBEq,Nat.reduceEqDiff]
 refine ⟨by omega,by omega,_,rfl,?_⟩
 refine wr_at (A:=N ++ [_]) (f:=slq) (u:=aq g.c.depth.length ⟨b3,0,none⟩) (by rw [List.append_assoc]; rfl) slq_len hll (by omega) ?_
 rw [hset]
 simp (config := { maxSteps := 4000000 }) only [↓sxw,sxw,tf171,sxu,sxl,sxm,Int.reduceBEq,Int.reduceBNe,Int.reduceLT,Int.reduceLE,Int.reduceEq,Int.reduceGT,Int.reduceGE,Int.reduceToNat,↓reduceIte,List.reduceReplicate,Nat.reduceAdd,Nat.reduceSub,Nat.reduceMul,Nat.reduceLT,Nat.reduceLeDiff,Nat.reduceBEq,Nat.reduceEqDiff,e2]
 refine ⟨(i + 1,aa ++ [(⟨b3,0,none⟩:Addr)]),_,rfl,?_,⟨by simp only []; omega,by simp only [List.length_append,List.length_singleton]; omega,by simp only []; rw [hfr]⟩,by simp only []; omega⟩
 exact HImp.trans (HImp.sub (List.Sublist.append (List.singleton_sublist.2 (List.mem_append_left _ hm)) (List.Sublist.refl _))) (HImp.perm List.perm_append_comm)
end Go.Proofs.YtljpknnhimkkjaaGreatDoor

namespace Go.Proofs.YtljpknnhimkkjaaGreatDoor
open Go.RowKit Go.SX
set_option maxRecDepth 10000
set_option maxHeartbeats 0
set_option linter.unusedSimpArgs false
set_option linter.unusedVariables false
theorem ld_row {α:Type} {w0:Base} {H:List HO} {ad:Addr} {len cap E sz k o:Nat} {f:α → List Value} {l:List α} {u:α} {v:Value} {K:SV → Prop} (h:HO.row (.slice (some ad) len cap) E sz (cat f l) ∈ H) (hf:∀ a,(f a).length = sz) (hl:l.length = len) (hu:l[k]? = some u) (hov:(f u)[o]? = some v) (hK:K (.v v)):hold (LdOb w0 H ((ad.add (k * sz)).add o) none K) ⟨0⟩:=by
 obtain ⟨a,n,c,e,_,hc⟩:=row_rdv (w0:=w0) h ⟨_,_,_,rfl,by rw [cat_len hf,hl],fun h=>by cases h⟩
 cases e
 have ho:o < sz:=by
  have:=(List.getElem?_eq_some_iff.1 hov).1
  rwa [hf] at this
 obtain ⟨ad',e,hr⟩:=hc (k * sz + o) v (by rw [cat_get hf hu ho]; exact hov)
 cases e
 rw [add_add]
 exact ⟨v,hr,hK⟩
theorem row_rdS {α:Type} {w0:Base} {H:List HO} {ad:Addr} {len cap E sz:Nat} {f:α → List Value} {l:List α} (h:HO.row (.slice (some ad) len cap) E sz (cat f l) ∈ H) (hf:∀ a,(f a).length = sz) (hl:l.length = len):Rdv w0 H (.slice (some ad) len cap) sz (cat f l):=
 row_rdv h ⟨_,_,_,rfl,by rw [cat_len hf,hl],fun h=>by cases h⟩
theorem stN_eq (g:Vg) (y s:Nat):stN (g.tc:Int) (g.ts:Int) (y:Int) (s:Int) = ((g.st y s:Nat):Int):=by
 unfold stN Vg.st
 by_cases h1:s > g.ts
 ·rw [if_pos h1,if_pos (by omega)]
 ·rw [if_neg h1,if_neg (by omega)]
  by_cases h2:y = g.tc
  ·rw [if_pos h2,if_pos (by omega)]
   omega
  ·rw [if_neg h2,if_neg (by omega)]
   try rfl
def detT:Nat → List Value → Option Value
 | 173,[.agg ⟨[.int .i64 a,.int .i64 b]⟩,.int .i64 y,.int .i64 s]=>if 0 ≤ s ∧ s ≤ 1000 then some (I (stN a b y s)) else none
 | _,_=>none
theorem detT_ok (w0:World) (X:Nat → Prop):DetFn Tryz.prog ⟨w0,X⟩ detT:=by
 intro g args v h w hk
 unfold detT at h
 split at h
 ·split at h
  ·rename_i hc
   cases h
   exact det_of_fn (stays_fn w _ _ _ _ hc)
  ·cases h
 ·cases h
theorem detT_eq (g:Vg) {y s:Nat} (hs:s ≤ 1000):detT 173 [.agg #[I g.tc,I g.ts],I y,I s] = some (I (g.st y s:Nat)):=by
 have:detT 173 [.agg #[I g.tc,I g.ts],I y,I s] = some (I (stN g.tc g.ts y s)):=if_pos (by omega)
 rw [this,stN_eq]
def LogM (g:Vg) (N:List HO) (qs:List (Option Addr × Nat × Nat)) (tabs:List (List (List Frm))):Prop:=qs.length = tabs.length ∧ ∀ (i:Nat) R,tabs[i]? = some R → ∃ b aa,qs[i]? = some (some ⟨b,0,none⟩,g.ts + 2,g.ts + 2) ∧ aa.length = g.ts + 2 ∧ HO.row (.slice (some ⟨b,0,none⟩) (g.ts + 2) (g.ts + 2)) 235 1 (cat slq (aa.map (aq g.c.depth.length))) ∈ N ∧ ∀ h ∈ FR g.c.depth.length aa R,h ∈ N
def Vg.Tabs (g:Vg) (tabs:List (List (List Frm))):Prop:=(∀ (i:Nat) R,tabs[i]? = some R → g.Tab i R) ∧ ∀ (i:Nat) R R',tabs[i]? = some R → tabs[i + 1]? = some R' → g.Prd i R R'
theorem LogM.mono {g:Vg} {N N':List HO} {qs:List (Option Addr × Nat × Nat)} {tabs:List (List (List Frm))} (h:LogM g N qs tabs) (hm:∀ h ∈ N,h ∈ N'):LogM g N' qs tabs:=
 ⟨h.1,fun i R hR=>by
  obtain ⟨b,aa,h1,h2,h3,h4⟩:=h.2 i R hR
  exact ⟨b,aa,h1,h2,hm _ h3,fun x hx=>hm _ (h4 x hx)⟩⟩
theorem LogM.snoc {g:Vg} {N:List HO} {qs:List (Option Addr × Nat × Nat)} {tabs:List (List (List Frm))} (h:LogM g N qs tabs) {b:Nat} {aa:List Addr} {R:List (List Frm)} (ha:aa.length = g.ts + 2) (h1:HO.row (.slice (some ⟨b,0,none⟩) (g.ts + 2) (g.ts + 2)) 235 1 (cat slq (aa.map (aq g.c.depth.length))) ∈ N) (h2:∀ h ∈ FR g.c.depth.length aa R,h ∈ N):LogM g N (qs ++ [(some ⟨b,0,none⟩,g.ts + 2,g.ts + 2)]) (tabs ++ [R]):=by
 refine ⟨by rw [List.length_append,List.length_append,h.1]; rfl,fun i R' hR=>?_⟩
 by_cases hi:i < tabs.length
 ·rw [List.getElem?_append_left hi] at hR
  obtain ⟨b',aa',k1,k2,k3,k4⟩:=h.2 i R' hR
  exact ⟨b',aa',by rw [List.getElem?_append_left (by rw [h.1]; exact hi)]; exact k1,k2,k3,k4⟩
 ·have hlt:=(List.getElem?_eq_some_iff.1 hR).1
  rw [List.length_append,List.length_singleton] at hlt
  have hie:i = tabs.length:=by omega
  subst hie
  rw [List.getElem?_append_right (Nat.le_refl _),Nat.sub_self] at hR
  cases hR
  exact ⟨b,aa,by rw [List.getElem?_append_right (by rw [h.1]; exact Nat.le_refl _),h.1,Nat.sub_self]; rfl,ha,h1,h2⟩
theorem Vg.Tabs.snoc {g:Vg} {tabs:List (List (List Frm))} (h:g.Tabs tabs) {R':List (List Frm)} (h1:g.Tab tabs.length R') (h2:∀ R,0 < tabs.length → tabs[tabs.length - 1]? = some R → g.Prd (tabs.length - 1) R R'):g.Tabs (tabs ++ [R']):=by
 have key:∀ i R,(tabs ++ [R'])[i]? = some R → (i < tabs.length ∧ tabs[i]? = some R) ∨ (i = tabs.length ∧ R = R'):=fun i R hR=>by
  by_cases hi:i < tabs.length
  ·rw [List.getElem?_append_left hi] at hR
   exact .inl ⟨hi,hR⟩
  ·have hlt:=(List.getElem?_eq_some_iff.1 hR).1
   rw [List.length_append,List.length_singleton] at hlt
   have hie:i = tabs.length:=by omega
   subst hie
   rw [List.getElem?_append_right (Nat.le_refl _),Nat.sub_self] at hR
   cases hR
   exact .inr ⟨rfl,rfl⟩
 refine ⟨fun i R hR=>?_,fun i R S hR hS=>?_⟩
 ·rcases key i R hR with ⟨_,h3⟩ | ⟨rfl,rfl⟩
  ·exact h.1 i R h3
  ·exact h1
 ·rcases key i R hR with ⟨hi,h3⟩ | ⟨rfl,rfl⟩
  ·rcases key (i + 1) S hS with ⟨_,h4⟩ | ⟨h4,rfl⟩
   ·exact h.2 i R S h3 h4
   ·have:=h2 R (by omega) (by rw [show tabs.length - 1 = i by omega]; exact h3)
    rwa [show tabs.length - 1 = i by omega] at this
  ·rcases key (tabs.length + 1) S hS with ⟨h4,_⟩ | ⟨h4,_⟩ <;> omega
theorem en_get {g:Vg} {R:List (List Frm)} (h:g.shape R) {s x:Nat} (hs:s < g.ts + 2) (hx:x < g.c.depth.length):(R.getD s [])[x]? = some (en R s x):=by
 unfold en
 exact getD_at (by rw [h.2 s hs]; exact hx) _
end Go.Proofs.YtljpknnhimkkjaaGreatDoor

namespace Go.Proofs.YtljpknnhimkkjaaGreatDoor
open Go.RowKit Go.SX
set_option maxRecDepth 10000
set_option maxHeartbeats 0
set_option linter.unusedSimpArgs false
set_option linter.unusedVariables false
def SailP (g:Vg) (q:Value) (N:List HO):Prop:=∃ ad cp qs tabs,q = .slice (some ad) tabs.length cp ∧ HO.row (.slice (some ad) tabs.length cp) 236 1 (cat slq qs) ∈ N ∧ LogM g N qs tabs ∧ g.Tabs tabs ∧ tabs.length = g.c.tide.length - g.t
def pl149_3:Plan:=(ones [0,1,2,3,4,5,9,10,11,12,6,7,8,13,14,15] .fin)
def pl149:List (Nat × Plan):=[(3,pl149_3)]
theorem pl149_lk:(lkO 3 pl149 = some pl149_3) ∧ (lkO 19 pl149 = none) ∧ (lkO 21 pl149 = none):=⟨rfl,rfl,rfl⟩
theorem sail5_fn (w:World) (bs:Nat) (g:Vg) (hg:g.Ok) (r:Rmp) (hkr:r.cell = g.k) (hst:StaOk w bs g.c g.b r.cell (rdyL g.c g.b r) (canL g.c g.b) (nearL g.c)):
  SX.Fn Tryz.prog 149 [.pointer (some ⟨bs,0,none⟩),.agg #[I g.tc,I g.ts],I g.t] w (fun _=>False) (SailP g):=by
 obtain ⟨sD,sT,sS,vr,vc,vn,hcs,hch,hrd,hcn,hnr⟩:=hst
 obtain ⟨sD',sT',sS',he,hsD,hsT,hsS⟩:=hch
 injection he with he
 injection he with he
 simp only [List.cons.injEq,true_and,and_true] at he
 obtain ⟨rfl,rfl,rfl⟩:=he
 obtain ⟨aD,nD,cD,rfl⟩:=hsD.shape
 obtain ⟨aT,nT,cT,rfl⟩:=hsT.shape
 obtain ⟨cvs,hcvl,hcvs,hcv⟩:=hcn.at
 obtain ⟨nvs,hnvl,hnvs,hnv⟩:=hnr.at
 obtain ⟨ac,nc,cc,rfl⟩:=hcvs.shape
 obtain ⟨an,nn,cn,rfl⟩:=hnvs.shape
 have hnD:=hsD.le i1_len (by omega)
 have hnT:=hsT.le spc_len (by omega)
 have hnc:=hcvs.le slq_len (by omega)
 have hnn:=hnvs.le slq_len (by omega)
 have hcl:(canL g.c g.b).length = g.c.tide.length:=by unfold canL; rw [List.length_map,List.length_range]
 have hnl:(nearL g.c).length = g.c.depth.length:=by unfold nearL; rw [List.length_map,List.length_range]
 rw [hcvl,hcl] at hnc
 rw [hnvl,hnl] at hnn
 subst hnD hnT hnc hnn
 have hrc:=hcvs.rd0
 have hrn:=hnvs.rd0
 have h60:=hg.ok.2.2.2.1.2
 have hts:=hg.ts
 have hk0:=hg.k
 have ht0:=hg.t
 have h144:g.c.depth.length < 200:=by have:=hg.ok.dims; obtain ⟨_,_,h1,h2,h3⟩:=this; rw [h3]; exact Nat.lt_of_le_of_lt (Nat.mul_le_mul h1.2 h2.2) (by decide)
 have m2:=hcs 2 _ rfl
 have m3:=hcs 3 _ rfl
 have m7:=hcs 7 _ rfl
 have m8:=hcs 8 _ rfl
 have m12:=hcs 12 _ rfl
 have m14:=hcs 14 _ rfl
 have m15:=hcs 15 _ rfl
 rw [hkr] at m12
 have dn:(∀ xs,detT 171 xs = none):=fun _=>rfl
 have d0:detT 173 [.agg #[I g.tc,I g.ts],I g.k,I 0] = some (I (g.st g.k 0:Nat)):=detT_eq g (y:=g.k) (s:=0) (by omega)
 have hst0:=g.st_le (y:=g.k) (s:=0) (by omega)
 obtain ⟨S0,hS0⟩:∃ S0,g.st g.k 0 = S0:=⟨_,rfl⟩
 rw [hS0] at d0 hst0
 refine walk [3,4,15] pl149 (detT_ok _ _) Tryz.func149 rfl Tryz.ntmps149 res149 (by kernel_rfl) no_facts ?_
 simp (config := { maxSteps := 4000000 }) only [↓sxw,sxw,tf149,sxu,sxl,sxm,Int.reduceBEq,Int.reduceBNe,Int.reduceLT,Int.reduceLE,Int.reduceEq,Int.reduceGT,Int.reduceGE,Int.reduceToNat,↓reduceIte,List.reduceReplicate,Nat.reduceAdd,Nat.reduceSub,Nat.reduceMul,Nat.reduceLT,Nat.reduceLeDiff,Nat.reduceBEq,Nat.reduceEqDiff,dn]
 intro bx bk
 refine CallOb.pureH (fun w' hp=>rows5_fn w' bk bx bs g hg aD cD (cells_old (T:=102) (cs:=[I g.tc,I g.ts]) List.mem_cons_self hp 1 _ rfl) (cells_old (T:=148) (cs:=[.pointer (some ⟨bs,0,none⟩)]) (by simp) hp 0 _ rfl) ((World.cell?_of_block (w:=w) (hp.ext.block bs (World.block_lt_of_cell? w _ m2) id)).trans m2)) ?_
 rintro q N ⟨b1,aa,rfl,hal,rfl⟩
 have hla:aa.length = g.void.length:=by rw [hal,void_len]
 have hFA:=FR_at (n:=g.c.depth.length) hla (s:=S0) (by omega)
 refine ⟨?_⟩
 simp (config := { maxSteps := 4000000 }) only [↓sxw,sxw,tf149,sxu,sxl,sxm,Int.reduceBEq,Int.reduceBNe,Int.reduceLT,Int.reduceLE,Int.reduceEq,Int.reduceGT,Int.reduceGE,Int.reduceToNat,↓reduceIte,List.reduceReplicate,Nat.reduceAdd,Nat.reduceSub,Nat.reduceMul,Nat.reduceLT,Nat.reduceLeDiff,Nat.reduceBEq,Nat.reduceEqDiff,pl149_lk,pl149_3]
 refine ld_cells (T:=102) (cs:=[I g.tc,I g.ts]) [I g.tc,I g.ts] (by simp) rfl rfl ?_
 simp (config := { maxSteps := 4000000 }) only [↓sxw,sxw,tf149,sxu,sxl,sxm,Int.reduceBEq,Int.reduceBNe,Int.reduceLT,Int.reduceLE,Int.reduceEq,Int.reduceGT,Int.reduceGE,Int.reduceToNat,↓reduceIte,List.reduceReplicate,Nat.reduceAdd,Nat.reduceSub,Nat.reduceMul,Nat.reduceLT,Nat.reduceLeDiff,Nat.reduceBEq,Nat.reduceEqDiff,pl149_lk,pl149_3]
 refine ld_cell (T:=148) (cs:=[.pointer (some ⟨bs,0,none⟩)]) (by simp) rfl ?_
 simp (config := { maxSteps := 4000000 }) only [↓sxw,sxw,tf149,sxu,sxl,sxm,Int.reduceBEq,Int.reduceBNe,Int.reduceLT,Int.reduceLE,Int.reduceEq,Int.reduceGT,Int.reduceGE,Int.reduceToNat,↓reduceIte,List.reduceReplicate,Nat.reduceAdd,Nat.reduceSub,Nat.reduceMul,Nat.reduceLT,Nat.reduceLeDiff,Nat.reduceBEq,Nat.reduceEqDiff,pl149_lk,pl149_3]
 refine ld_olda (by simp [add_block]) m12 id ?_
 simp (config := { maxSteps := 4000000 }) only [↓sxw,sxw,tf149,sxu,sxl,sxm,Int.reduceBEq,Int.reduceBNe,Int.reduceLT,Int.reduceLE,Int.reduceEq,Int.reduceGT,Int.reduceGE,Int.reduceToNat,↓reduceIte,List.reduceReplicate,Nat.reduceAdd,Nat.reduceSub,Nat.reduceMul,Nat.reduceLT,Nat.reduceLeDiff,Nat.reduceBEq,Nat.reduceEqDiff,pl149_lk,pl149_3]
 refine ld_cell (T:=148) (cs:=[.pointer (some ⟨bs,0,none⟩)]) (by simp) rfl ?_
 simp (config := { maxSteps := 4000000 }) only [↓sxw,sxw,tf149,sxu,sxl,sxm,Int.reduceBEq,Int.reduceBNe,Int.reduceLT,Int.reduceLE,Int.reduceEq,Int.reduceGT,Int.reduceGE,Int.reduceToNat,↓reduceIte,List.reduceReplicate,Nat.reduceAdd,Nat.reduceSub,Nat.reduceMul,Nat.reduceLT,Nat.reduceLeDiff,Nat.reduceBEq,Nat.reduceEqDiff,pl149_lk,pl149_3]
 refine ld_olda (by simp [add_block]) m12 id ?_
 simp (config := { maxSteps := 4000000 }) only [↓sxw,sxw,tf149,sxu,sxl,sxm,Int.reduceBEq,Int.reduceBNe,Int.reduceLT,Int.reduceLE,Int.reduceEq,Int.reduceGT,Int.reduceGE,Int.reduceToNat,↓reduceIte,List.reduceReplicate,Nat.reduceAdd,Nat.reduceSub,Nat.reduceMul,Nat.reduceLT,Nat.reduceLeDiff,Nat.reduceBEq,Nat.reduceEqDiff,d0,pl149_lk,pl149_3]
 have hau:=List.getElem?_eq_getElem (show S0 < aa.length by omega)
 have haq:(aa.map (aq g.c.depth.length))[S0]? = some (aq g.c.depth.length (aa[S0]'(by omega))):=by rw [List.getElem?_map,hau]; rfl
 refine at_1 (row_rdS (E:=235) List.mem_cons_self slq_len (by rw [List.length_map,hal])) slq_len haq (show slq (aq _ _) = [Value.slice (some (aa[S0]'(by omega))) g.c.depth.length g.c.depth.length] from rfl) fun ad1=>?_
 simp (config := { maxSteps := 4000000 }) only [↓sxw,sxw,tf149,sxu,sxl,sxm,Int.reduceBEq,Int.reduceBNe,Int.reduceLT,Int.reduceLE,Int.reduceEq,Int.reduceGT,Int.reduceGE,Int.reduceToNat,↓reduceIte,List.reduceReplicate,Nat.reduceAdd,Nat.reduceSub,Nat.reduceMul,Nat.reduceLT,Nat.reduceLeDiff,Nat.reduceBEq,Nat.reduceEqDiff,pl149_lk,pl149_3]
 refine ⟨by omega,by omega,_,rfl,?_⟩
 have hv1:g.void.getD S0 [] = g.void.getD S0 []:=rfl
 have hvl:=g.void_shape.2 S0 (by omega)
 have hvu:(g.void.getD S0 [])[g.k]? = some (en g.void S0 g.k):=en_get g.void_shape (by omega) hk0
 rw [g.void_en (by omega) hk0] at hvu
 refine wr_f1 (A:=HO.row (.slice (some ⟨b1,0,none⟩) (g.ts + 2) (g.ts + 2)) 235 1 (cat slq (aa.map (aq g.c.depth.length))) :: FR g.c.depth.length (aa.take S0) (g.void.take S0)) (B:=FR g.c.depth.length (aa.drop (S0 + 1)) (g.void.drop (S0 + 1)) ++ [HO.cells bk 102 [I g.tc,I g.ts],HO.cells bx 148 [.pointer (some ⟨bs,0,none⟩)]]) (f:=frc) (l:=g.void.getD S0 []) (u:=(nvr,0,0)) ((0,0,0):Frm) (by rw [hFA,List.append_assoc]; rfl) frc_len hvl hvu rfl (by decide) ?_
 have hFS:=FR_set (n:=g.c.depth.length) hla (s:=S0) (by omega) ((g.void.getD S0 []).set g.k (0,0,0))
 have hT0:g.Tab 0 (setE g.void S0 g.k (0,0,0)):=by rw [← hS0]; exact Vg.Tab.first hg
 obtain ⟨R0,hR0⟩:∃ R0,setE g.void S0 g.k (0,0,0) = R0:=⟨_,rfl⟩
 have hR0':g.void.set S0 ((g.void.getD S0 []).set g.k (0,0,0)) = R0:=hR0
 rw [hR0'] at hFS
 rw [hR0] at hT0
 have e1:wr ((g.t:Int) + 1) = ((g.t + 1 + 0:Nat):Int):=(wrap_id (by omega)).trans (by omega)
 simp (config := { maxSteps := 4000000 }) only [↓sxw,sxw,tf149,sxu,sxl,sxm,Int.reduceBEq,Int.reduceBNe,Int.reduceLT,Int.reduceLE,Int.reduceEq,Int.reduceGT,Int.reduceGE,Int.reduceToNat,↓reduceIte,List.reduceReplicate,Nat.reduceAdd,Nat.reduceSub,Nat.reduceMul,Nat.reduceLT,Nat.reduceLeDiff,Nat.reduceBEq,Nat.reduceEqDiff,pl149_lk,pl149_3,e1]
 intro b2
 refine loop_constH (HO.row (.slice (some ⟨b2,0,none⟩) (0 + 1) 1) 236 1 (cat slq ([] ++ [(some ⟨b1,0,none⟩,g.ts + 2,g.ts + 2)])) :: HO.cells bk 102 [I g.tc,I g.ts] :: HO.cells bx 148 [.pointer (some ⟨bs,0,none⟩)] :: (HO.row (.slice (some ⟨b1,0,none⟩) (g.ts + 2) (g.ts + 2)) 235 1 (cat slq (aa.map (aq g.c.depth.length))) :: FR g.c.depth.length aa R0)) ?_ [(9,15),(17,19),(42,146)] (fun q:Nat × Addr × Nat=>[(9,.slice (some q.2.1) (q.1 + 1) q.2.2),(10,I ((g.t + 1 + q.1:Nat):Int))])
  (fun q H1=>g.t + 1 + q.1 ≤ g.c.tide.length ∧ ∃ qs tabs DF,H1 = HO.row (.slice (some q.2.1) (q.1 + 1) q.2.2) 236 1 (cat slq qs) :: HO.cells bk 102 [I g.tc,I g.ts] :: HO.cells bx 148 [.pointer (some ⟨bs,0,none⟩)] :: DF ∧ tabs.length = q.1 + 1 ∧ LogM g DF qs tabs ∧ g.Tabs tabs) (fun q=>g.c.tide.length - q.1) (0,⟨b2,0,none⟩,1) ?_ ⟨by simp only []; omega,[] ++ [(some ⟨b1,0,none⟩,g.ts + 2,g.ts + 2)],[] ++ [R0],_,rfl,rfl,LogM.snoc ⟨rfl,fun i R h=>by simp at h⟩ hal List.mem_cons_self (fun h hh=>List.mem_cons_of_mem _ hh),Vg.Tabs.snoc ⟨fun i R h=>by simp at h,fun i R R' h=>by simp at h⟩ hT0 (fun R h=>by simp at h)⟩ ?_
 ·rw [hFS]
  have hcat:∀ (a m x y:HO) (l1 l2:List HO),a :: (l1 ++ m :: (l2 ++ [x,y])) = (a :: (l1 ++ m :: l2)) ++ [x,y]:=fun a m x y l1 l2=>by simp
  rw [hcat]
  exact HImp.perm (List.Perm.cons _ (List.perm_append_comm (l₂:=[HO.cells bk 102 [I g.tc,I g.ts],HO.cells bx 148 [.pointer (some ⟨bs,0,none⟩)]])))
 ·simp (config := { maxSteps := 4000000 }) only [↓sxw,sxw,tf149,sxu,sxl,sxm,Int.reduceBEq,Int.reduceBNe,Int.reduceLT,Int.reduceLE,Int.reduceEq,Int.reduceGT,Int.reduceGE,Int.reduceToNat,↓reduceIte,List.reduceReplicate,Nat.reduceAdd,Nat.reduceSub,Nat.reduceMul,Nat.reduceLT,Nat.reduceLeDiff,Nat.reduceBEq,Nat.reduceEqDiff]
  try simp
 rintro ⟨i,ad,cp⟩ H1 g1 hinv
 simp only [] at hinv
 obtain ⟨hi,qs,tabs,DF,rfl,htl,hLM,hTb⟩:=hinv
 by_cases hin:g.t + 1 + i = g.c.tide.length
 ·have e7:(((g.t + 1 + i:Nat):Int) < (g.c.tide.length:Int)) = False:=eq_false (by omega)
  refine ⟨?_⟩
  simp (config := { maxSteps := 4000000 }) only [↓sxw,sxw,tf149,sxu,sxl,sxm,Int.reduceBEq,Int.reduceBNe,Int.reduceLT,Int.reduceLE,Int.reduceEq,Int.reduceGT,Int.reduceGE,Int.reduceToNat,↓reduceIte,List.reduceReplicate,Nat.reduceAdd,Nat.reduceSub,Nat.reduceMul,Nat.reduceLT,Nat.reduceLeDiff,Nat.reduceBEq,Nat.reduceEqDiff]
  refine ld_cell (T:=148) (cs:=[.pointer (some ⟨bs,0,none⟩)]) (by simp) rfl ?_
  simp (config := { maxSteps := 4000000 }) only [↓sxw,sxw,tf149,sxu,sxl,sxm,Int.reduceBEq,Int.reduceBNe,Int.reduceLT,Int.reduceLE,Int.reduceEq,Int.reduceGT,Int.reduceGE,Int.reduceToNat,↓reduceIte,List.reduceReplicate,Nat.reduceAdd,Nat.reduceSub,Nat.reduceMul,Nat.reduceLT,Nat.reduceLeDiff,Nat.reduceBEq,Nat.reduceEqDiff]
  refine ld_olda (by simp [add_block]) m3 id ?_
  simp (config := { maxSteps := 4000000 }) only [↓sxw,sxw,tf149,sxu,sxl,sxm,Int.reduceBEq,Int.reduceBNe,Int.reduceLT,Int.reduceLE,Int.reduceEq,Int.reduceGT,Int.reduceGE,Int.reduceToNat,↓reduceIte,List.reduceReplicate,Nat.reduceAdd,Nat.reduceSub,Nat.reduceMul,Nat.reduceLT,Nat.reduceLeDiff,Nat.reduceBEq,Nat.reduceEqDiff,e7]
  exact ⟨ad,cp,qs,tabs,by rw [htl],by rw [htl]; exact List.mem_cons_self,hLM.mono fun h hh=>by simp [hh],hTb,by omega⟩
 have e7:(((g.t + 1 + i:Nat):Int) < (g.c.tide.length:Int)) = True:=eq_true (by omega)
 have e8:wr (((g.t + 1 + i:Nat):Int) + 1) = ((g.t + 1 + (i + 1):Nat):Int):=(wrap_id (by omega)).trans (by omega)
 have e9:wr (((i + 1:Nat):Int) - 1) = (i:Int):=(wrap_id (by omega)).trans (by omega)
 have hRl:=List.getElem?_eq_getElem (show i < tabs.length by omega)
 obtain ⟨R,hR⟩:∃ R,tabs[i]'(by omega) = R:=⟨_,rfl⟩
 rw [hR] at hRl
 have hTi:=hTb.1 i R hRl
 obtain ⟨b4,ab,hq4,habl,hb4,hFRm⟩:=hLM.2 i R hRl
 have hql:=hLM.1
 obtain ⟨T0,hT0e⟩:∃ T0,HO.row (.slice (some ad) (i + 1) cp) 236 1 (cat slq qs) :: HO.cells bk 102 [I g.tc,I g.ts] :: HO.cells bx 148 [.pointer (some ⟨bs,0,none⟩)] :: DF = T0:=⟨_,rfl⟩
 have tL:HO.row (.slice (some ad) (i + 1) cp) 236 1 (cat slq qs) ∈ T0:=by rw [← hT0e]; exact List.mem_cons_self
 have tK:HO.cells bk 102 [I g.tc,I g.ts] ∈ T0:=by rw [← hT0e]; exact List.mem_cons_of_mem _ List.mem_cons_self
 have tX:HO.cells bx 148 [.pointer (some ⟨bs,0,none⟩)] ∈ T0:=by rw [← hT0e]; exact List.mem_cons_of_mem _ (List.mem_cons_of_mem _ List.mem_cons_self)
 have tB:HO.row (.slice (some ⟨b4,0,none⟩) (g.ts + 2) (g.ts + 2)) 235 1 (cat slq (ab.map (aq g.c.depth.length))) ∈ T0:=by rw [← hT0e]; exact List.mem_cons_of_mem _ (List.mem_cons_of_mem _ (List.mem_cons_of_mem _ hb4))
 have tF:∀ h ∈ FR g.c.depth.length ab R,h ∈ T0:=fun h hh=>by rw [← hT0e]; exact List.mem_cons_of_mem _ (List.mem_cons_of_mem _ (List.mem_cons_of_mem _ (hFRm h hh)))
 rw [hT0e]
 refine ⟨?_⟩
 simp (config := { maxSteps := 4000000 }) only [↓sxw,sxw,tf149,sxu,sxl,sxm,Int.reduceBEq,Int.reduceBNe,Int.reduceLT,Int.reduceLE,Int.reduceEq,Int.reduceGT,Int.reduceGE,Int.reduceToNat,↓reduceIte,List.reduceReplicate,Nat.reduceAdd,Nat.reduceSub,Nat.reduceMul,Nat.reduceLT,Nat.reduceLeDiff,Nat.reduceBEq,Nat.reduceEqDiff]
 refine ld_cell (T:=148) (cs:=[.pointer (some ⟨bs,0,none⟩)]) tX rfl ?_
 simp (config := { maxSteps := 4000000 }) only [↓sxw,sxw,tf149,sxu,sxl,sxm,Int.reduceBEq,Int.reduceBNe,Int.reduceLT,Int.reduceLE,Int.reduceEq,Int.reduceGT,Int.reduceGE,Int.reduceToNat,↓reduceIte,List.reduceReplicate,Nat.reduceAdd,Nat.reduceSub,Nat.reduceMul,Nat.reduceLT,Nat.reduceLeDiff,Nat.reduceBEq,Nat.reduceEqDiff]
 refine ld_olda (by simp [add_block]) m3 id ?_
 simp (config := { maxSteps := 4000000 }) only [↓sxw,sxw,tf149,sxu,sxl,sxm,Int.reduceBEq,Int.reduceBNe,Int.reduceLT,Int.reduceLE,Int.reduceEq,Int.reduceGT,Int.reduceGE,Int.reduceToNat,↓reduceIte,List.reduceReplicate,Nat.reduceAdd,Nat.reduceSub,Nat.reduceMul,Nat.reduceLT,Nat.reduceLeDiff,Nat.reduceBEq,Nat.reduceEqDiff,e7,dn]
 refine CallOb.pureH (fun w' hp=>rows5_fn w' bk bx bs g hg aD cD (cells_old (T:=102) (cs:=[I g.tc,I g.ts]) tK hp 1 _ rfl) (cells_old (T:=148) (cs:=[.pointer (some ⟨bs,0,none⟩)]) tX hp 0 _ rfl) ((World.cell?_of_block (w:=w) (hp.ext.block bs (World.block_lt_of_cell? w _ m2) id)).trans m2)) ?_
 rintro q N ⟨b3,an3,rfl,han3,rfl⟩
 refine ⟨?_⟩
 simp (config := { maxSteps := 4000000 }) only [↓sxw,sxw,tf149,sxu,sxl,sxm,Int.reduceBEq,Int.reduceBNe,Int.reduceLT,Int.reduceLE,Int.reduceEq,Int.reduceGT,Int.reduceGE,Int.reduceToNat,↓reduceIte,List.reduceReplicate,Nat.reduceAdd,Nat.reduceSub,Nat.reduceMul,Nat.reduceLT,Nat.reduceLeDiff,Nat.reduceBEq,Nat.reduceEqDiff,e9]
 refine at_1 (row_rdS (E:=236) (List.mem_cons_of_mem _ (List.mem_append_right _ tL)) slq_len (by omega)) slq_len hq4 rfl fun ad2=>?_
 simp (config := { maxSteps := 4000000 }) only [↓sxw,sxw,tf149,sxu,sxl,sxm,Int.reduceBEq,Int.reduceBNe,Int.reduceLT,Int.reduceLE,Int.reduceEq,Int.reduceGT,Int.reduceGE,Int.reduceToNat,↓reduceIte,List.reduceReplicate,Nat.reduceAdd,Nat.reduceSub,Nat.reduceMul,Nat.reduceLT,Nat.reduceLeDiff,Nat.reduceBEq,Nat.reduceEqDiff]
 refine loop_constH (HO.row (.slice (some ⟨b3,0,none⟩) (g.ts + 2) (g.ts + 2)) 235 1 (cat slq (an3.map (aq g.c.depth.length))) :: (FR g.c.depth.length an3 g.void ++ T0)) (HImp.refl _ _) [(12,15),(17,19),(61,142)] (fun q:Nat × List (List Frm)=>[(61,I q.1)])
  (fun q H1=>q.1 ≤ g.ts + 2 ∧ g.Nxt i R (fun s x j=>s < q.1) q.2 ∧ H1 = HO.row (.slice (some ⟨b3,0,none⟩) (g.ts + 2) (g.ts + 2)) 235 1 (cat slq (an3.map (aq g.c.depth.length))) :: (FR g.c.depth.length an3 q.2 ++ T0)) (fun q=>g.ts + 2 - q.1) (0,g.void) ?_ ⟨Nat.zero_le _,(Vg.Nxt.init g i R).mono fun s0 x0 j h=>(by omega),rfl⟩ ?_
 ·simp (config := { maxSteps := 4000000 }) only [↓sxw,sxw,tf149,sxu,sxl,sxm,Int.reduceBEq,Int.reduceBNe,Int.reduceLT,Int.reduceLE,Int.reduceEq,Int.reduceGT,Int.reduceGE,Int.reduceToNat,↓reduceIte,List.reduceReplicate,Nat.reduceAdd,Nat.reduceSub,Nat.reduceMul,Nat.reduceLT,Nat.reduceLeDiff,Nat.reduceBEq,Nat.reduceEqDiff]
  try simp
 rintro ⟨S,Nx⟩ H2 g2 hinv2
 simp only [] at hinv2
 obtain ⟨hS,hNx,rfl⟩:=hinv2
 by_cases hSn:S = g.ts + 2
 ·have e10:((S:Int) < ((g.ts + 2:Nat):Int)) = False:=eq_false (by omega)
  have hTn:=hNx.tab hg (by omega) hTi (fun s x j h=>by omega)
  have hTs2:g.Tabs (tabs ++ [Nx]):=hTb.snoc (by rw [htl]; exact hTn) (fun R' _ hR'=>by
   rw [htl,show i + 1 - 1 = i from rfl] at hR' ⊢
   rw [hRl] at hR'
   cases hR'
   exact hNx.prd)
  refine ⟨?_⟩
  simp (config := { maxSteps := 4000000 }) only [↓sxw,sxw,tf149,sxu,sxl,sxm,Int.reduceBEq,Int.reduceBNe,Int.reduceLT,Int.reduceLE,Int.reduceEq,Int.reduceGT,Int.reduceGE,Int.reduceToNat,↓reduceIte,List.reduceReplicate,Nat.reduceAdd,Nat.reduceSub,Nat.reduceMul,Nat.reduceLT,Nat.reduceLeDiff,Nat.reduceBEq,Nat.reduceEqDiff,e10]
  intro b9
  refine app_one (f:=slq) (l:=qs) ((some ⟨b3,0,none⟩,g.ts + 2,g.ts + 2):Option Addr × Nat × Nat) (A:=HO.row (.slice (some ⟨b3,0,none⟩) (g.ts + 2) (g.ts + 2)) 235 1 (cat slq (an3.map (aq g.c.depth.length))) :: (FR g.c.depth.length an3 Nx ++ (HO.cells bk 102 [I g.tc,I g.ts] :: HO.cells bx 148 [.pointer (some ⟨bs,0,none⟩)] :: DF))) (by rw [← hT0e]; exact HImp.perm (List.perm_middle (l₁:=_ :: _))) slq_len (by simp [slq,Value.oneCell']) (by omega) fun a9 c9=>?_
  rw [hql,htl]
  simp (config := { maxSteps := 4000000 }) only [↓sxw,sxw,tf149,sxu,sxl,sxm,Int.reduceBEq,Int.reduceBNe,Int.reduceLT,Int.reduceLE,Int.reduceEq,Int.reduceGT,Int.reduceGE,Int.reduceToNat,↓reduceIte,List.reduceReplicate,Nat.reduceAdd,Nat.reduceSub,Nat.reduceMul,Nat.reduceLT,Nat.reduceLeDiff,Nat.reduceBEq,Nat.reduceEqDiff,e8]
  refine ⟨(i + 1,a9,c9),_,⟨rfl,rfl⟩,HImp.perm (List.Perm.cons _ ?_),⟨by simp only []; omega,qs ++ [(some ⟨b3,0,none⟩,g.ts + 2,g.ts + 2)],tabs ++ [Nx],(HO.row (.slice (some ⟨b3,0,none⟩) (g.ts + 2) (g.ts + 2)) 235 1 (cat slq (an3.map (aq g.c.depth.length))) :: FR g.c.depth.length an3 Nx) ++ DF,rfl,by rw [List.length_append,htl]; rfl,LogM.snoc (hLM.mono fun h hh=>List.mem_append_right _ hh) han3 (List.mem_append_left _ List.mem_cons_self) (fun h hh=>List.mem_append_left _ (List.mem_cons_of_mem _ hh)),hTs2⟩,by simp only []; omega⟩
  exact (List.perm_middle (l₁:=HO.row (.slice (some ⟨b3,0,none⟩) (g.ts + 2) (g.ts + 2)) 235 1 (cat slq (an3.map (aq g.c.depth.length))) :: FR g.c.depth.length an3 Nx)).trans (List.Perm.cons _ (List.perm_middle (l₁:=HO.row (.slice (some ⟨b3,0,none⟩) (g.ts + 2) (g.ts + 2)) 235 1 (cat slq (an3.map (aq g.c.depth.length))) :: FR g.c.depth.length an3 Nx)))
 have e10:((S:Int) < ((g.ts + 2:Nat):Int)) = True:=eq_true (by omega)
 have e11:wr (S + 1) = ((S + 1:Nat):Int):=(wrap_id (by omega)).trans (by omega)
 have hSl:S < g.ts + 2:=by omega
 have habS:=List.getElem?_eq_getElem (show S < ab.length by omega)
 have hqS:(ab.map (aq g.c.depth.length))[S]? = some (aq g.c.depth.length (ab[S]'(by omega))):=by rw [List.getElem?_map,habS]; rfl
 have hRsh:=hTi.shape
 have hrowS:=tF _ (FR_mem (n:=g.c.depth.length) (aa:=ab) (R:=R) (by rw [habl,hRsh.1]) (s:=S) (by omega))
 obtain ⟨aS,haS⟩:∃ aS,ab[S]'(by omega) = aS:=⟨_,rfl⟩
 rw [haS] at hqS hrowS
 refine ⟨?_⟩
 simp (config := { maxSteps := 4000000 }) only [↓sxw,sxw,tf149,sxu,sxl,sxm,Int.reduceBEq,Int.reduceBNe,Int.reduceLT,Int.reduceLE,Int.reduceEq,Int.reduceGT,Int.reduceGE,Int.reduceToNat,↓reduceIte,List.reduceReplicate,Nat.reduceAdd,Nat.reduceSub,Nat.reduceMul,Nat.reduceLT,Nat.reduceLeDiff,Nat.reduceBEq,Nat.reduceEqDiff,e10]
 refine amid (at_1 (row_rdS (E:=235) (List.mem_cons_of_mem _ (List.mem_append_right _ tB)) slq_len (by rw [List.length_map,habl])) slq_len hqS (show slq (aq _ _) = [Value.slice (some aS) g.c.depth.length g.c.depth.length] from rfl) fun ad3=>?_)
 simp (config := { maxSteps := 4000000 }) only [↓sxw,sxw,tf149,sxu,sxl,sxm,Int.reduceBEq,Int.reduceBNe,Int.reduceLT,Int.reduceLE,Int.reduceEq,Int.reduceGT,Int.reduceGE,Int.reduceToNat,↓reduceIte,List.reduceReplicate,Nat.reduceAdd,Nat.reduceSub,Nat.reduceMul,Nat.reduceLT,Nat.reduceLeDiff,Nat.reduceBEq,Nat.reduceEqDiff]
 refine loop_constH _ (HImp.refl _ _) [(14,15),(17,19),(68,141)] (fun q:Nat × List (List Frm)=>[(68,I q.1)])
  (fun q H1=>q.1 ≤ g.c.depth.length ∧ g.Nxt i R (fun s x j=>s < S ∨ s = S ∧ (x < q.1 ∨ x = q.1 ∧ j < 0)) q.2 ∧ H1 = HO.row (.slice (some ⟨b3,0,none⟩) (g.ts + 2) (g.ts + 2)) 235 1 (cat slq (an3.map (aq g.c.depth.length))) :: (FR g.c.depth.length an3 q.2 ++ T0)) (fun q=>g.c.depth.length - q.1) (0,Nx) ?_ ⟨Nat.zero_le _,hNx.mono fun s0 x0 j h=>(by omega),rfl⟩ ?_
 ·simp (config := { maxSteps := 4000000 }) only [↓sxw,sxw,tf149,sxu,sxl,sxm,Int.reduceBEq,Int.reduceBNe,Int.reduceLT,Int.reduceLE,Int.reduceEq,Int.reduceGT,Int.reduceGE,Int.reduceToNat,↓reduceIte,List.reduceReplicate,Nat.reduceAdd,Nat.reduceSub,Nat.reduceMul,Nat.reduceLT,Nat.reduceLeDiff,Nat.reduceBEq,Nat.reduceEqDiff]
  try simp
 rintro ⟨X,Ny⟩ H3 g3 hinv3
 simp only [] at hinv3
 obtain ⟨hX,hNy,rfl⟩:=hinv3
 by_cases hXn:X = g.c.depth.length
 ·have e12:((X:Int) < (g.c.depth.length:Int)) = False:=eq_false (by omega)
  refine ⟨?_⟩
  simp (config := { maxSteps := 4000000 }) only [↓sxw,sxw,tf149,sxu,sxl,sxm,Int.reduceBEq,Int.reduceBNe,Int.reduceLT,Int.reduceLE,Int.reduceEq,Int.reduceGT,Int.reduceGE,Int.reduceToNat,↓reduceIte,List.reduceReplicate,Nat.reduceAdd,Nat.reduceSub,Nat.reduceMul,Nat.reduceLT,Nat.reduceLeDiff,Nat.reduceBEq,Nat.reduceEqDiff,e12,e11]
  exact ⟨(S + 1,Ny),_,rfl,HImp.refl _ _,⟨by simp only []; omega,hNy.mono fun s0 x0 j h h1 h2 _ _=>(by omega),rfl⟩,by simp only []; omega⟩
 have e12:((X:Int) < (g.c.depth.length:Int)) = True:=eq_true (by omega)
 have e13:wr (X + 1) = ((X + 1:Nat):Int):=(wrap_id (by omega)).trans (by omega)
 have hXl:X < g.c.depth.length:=by omega
 have hu:=en_get hRsh hSl hXl
 have hbd:=hTi.bd hg hSl hXl
 obtain ⟨e,he⟩:∃ e,en R S X = e:=⟨_,rfl⟩
 rw [he] at hu hbd
 obtain ⟨B,pc,pz⟩:=e
 simp only [] at hbd
 by_cases hB:B = nvr
 ·have p1:(B = 1073741824) = True:=eq_true hB
  refine ⟨?_⟩
  simp (config := { maxSteps := 4000000 }) only [↓sxw,sxw,tf149,sxu,sxl,sxm,Int.reduceBEq,Int.reduceBNe,Int.reduceLT,Int.reduceLE,Int.reduceEq,Int.reduceGT,Int.reduceGE,Int.reduceToNat,↓reduceIte,List.reduceReplicate,Nat.reduceAdd,Nat.reduceSub,Nat.reduceMul,Nat.reduceLT,Nat.reduceLeDiff,Nat.reduceBEq,Nat.reduceEqDiff,e12]
  refine amid (at_n (row_rdS (E:=234) (List.mem_cons_of_mem _ (List.mem_append_right _ hrowS)) frc_len (hRsh.2 S hSl)) frc_len (by omega) hu fun ad4=>?_)
  unfold frc
  simp (config := { maxSteps := 4000000 }) only [↓sxw,sxw,tf149,sxu,sxl,sxm,Int.reduceBEq,Int.reduceBNe,Int.reduceLT,Int.reduceLE,Int.reduceEq,Int.reduceGT,Int.reduceGE,Int.reduceToNat,↓reduceIte,List.reduceReplicate,Nat.reduceAdd,Nat.reduceSub,Nat.reduceMul,Nat.reduceLT,Nat.reduceLeDiff,Nat.reduceBEq,Nat.reduceEqDiff]
  intro b5
  refine wr_cell (A:=[]) rfl (by simp) ?_
  simp (config := { maxSteps := 4000000 }) only [↓sxw,sxw,tf149,sxu,sxl,sxm,Int.reduceBEq,Int.reduceBNe,Int.reduceLT,Int.reduceLE,Int.reduceEq,Int.reduceGT,Int.reduceGE,Int.reduceToNat,↓reduceIte,List.reduceReplicate,Nat.reduceAdd,Nat.reduceSub,Nat.reduceMul,Nat.reduceLT,Nat.reduceLeDiff,Nat.reduceBEq,Nat.reduceEqDiff,List.take,List.drop,List.length_cons,List.length_nil,List.nil_append]
  refine ld_cella (T:=234) (cs:=[I B,I pc,I pz]) (by simp) rfl ?_
  simp (config := { maxSteps := 4000000 }) only [↓sxw,sxw,tf149,sxu,sxl,sxm,Int.reduceBEq,Int.reduceBNe,Int.reduceLT,Int.reduceLE,Int.reduceEq,Int.reduceGT,Int.reduceGE,Int.reduceToNat,↓reduceIte,List.reduceReplicate,Nat.reduceAdd,Nat.reduceSub,Nat.reduceMul,Nat.reduceLT,Nat.reduceLeDiff,Nat.reduceBEq,Nat.reduceEqDiff,p1,e13]
  exact ⟨(X + 1,Ny),_,rfl,HImp.tail _ _ _,⟨by simp only []; omega,hNy.mono fun s0 x0 j h h1 h2 h3 _=>(by
   by_cases hc:s0 = S ∧ x0 = X
   ·obtain ⟨rfl,rfl⟩:=hc
    rw [he] at h3
    exact absurd hB h3
   ·omega),rfl⟩,by simp only []; omega⟩
 have p1:(B = 1073741824) = False:=eq_false hB
 have hBb:0 ≤ B ∧ B ≤ 10000:=by
  rcases hbd with h | h
  ·exact absurd h hB
  ·omega
 have hnt:(nearL g.c)[X]? = some (nts (nbL g.c.W g.c.H X)):=by
  unfold nearL
  rw [List.getElem?_map,List.getElem?_range hXl]
  try rfl
 obtain ⟨qn,hqn,hqns⟩:=hnv _ _ hnt
 have hqnl:=hqns.le i1_len (by omega)
 have hqnr:=hqns.rd0
 have hnl7:=nbL_len g.c.W g.c.H X
 have hntl:(nts (nbL g.c.W g.c.H X)).length = (nbL g.c.W g.c.H X).length:=by unfold nts; rw [List.length_map]
 obtain ⟨qa,ql,qcp⟩:=qn
 simp only [] at hqnl hqnr hqns
 refine ⟨?_⟩
 simp (config := { maxSteps := 4000000 }) only [↓sxw,sxw,tf149,sxu,sxl,sxm,Int.reduceBEq,Int.reduceBNe,Int.reduceLT,Int.reduceLE,Int.reduceEq,Int.reduceGT,Int.reduceGE,Int.reduceToNat,↓reduceIte,List.reduceReplicate,Nat.reduceAdd,Nat.reduceSub,Nat.reduceMul,Nat.reduceLT,Nat.reduceLeDiff,Nat.reduceBEq,Nat.reduceEqDiff,e12]
 refine amid (at_n (row_rdS (E:=234) (List.mem_cons_of_mem _ (List.mem_append_right _ hrowS)) frc_len (hRsh.2 S hSl)) frc_len (by omega) hu fun ad4=>?_)
 unfold frc
 simp (config := { maxSteps := 4000000 }) only [↓sxw,sxw,tf149,sxu,sxl,sxm,Int.reduceBEq,Int.reduceBNe,Int.reduceLT,Int.reduceLE,Int.reduceEq,Int.reduceGT,Int.reduceGE,Int.reduceToNat,↓reduceIte,List.reduceReplicate,Nat.reduceAdd,Nat.reduceSub,Nat.reduceMul,Nat.reduceLT,Nat.reduceLeDiff,Nat.reduceBEq,Nat.reduceEqDiff]
 intro b5
 refine wr_cell (A:=[]) rfl (by simp) ?_
 simp (config := { maxSteps := 4000000 }) only [↓sxw,sxw,tf149,sxu,sxl,sxm,Int.reduceBEq,Int.reduceBNe,Int.reduceLT,Int.reduceLE,Int.reduceEq,Int.reduceGT,Int.reduceGE,Int.reduceToNat,↓reduceIte,List.reduceReplicate,Nat.reduceAdd,Nat.reduceSub,Nat.reduceMul,Nat.reduceLT,Nat.reduceLeDiff,Nat.reduceBEq,Nat.reduceEqDiff,List.take,List.drop,List.length_cons,List.length_nil,List.nil_append]
 refine ld_cella (T:=234) (cs:=[I B,I pc,I pz]) (by simp) rfl ?_
 simp (config := { maxSteps := 4000000 }) only [↓sxw,sxw,tf149,sxu,sxl,sxm,Int.reduceBEq,Int.reduceBNe,Int.reduceLT,Int.reduceLE,Int.reduceEq,Int.reduceGT,Int.reduceGE,Int.reduceToNat,↓reduceIte,List.reduceReplicate,Nat.reduceAdd,Nat.reduceSub,Nat.reduceMul,Nat.reduceLT,Nat.reduceLeDiff,Nat.reduceBEq,Nat.reduceEqDiff,p1]
 refine ld_cell (T:=148) (cs:=[.pointer (some ⟨bs,0,none⟩)]) (List.mem_cons_of_mem _ (List.mem_cons_of_mem _ (List.mem_append_right _ tX))) rfl ?_
 simp (config := { maxSteps := 4000000 }) only [↓sxw,sxw,tf149,sxu,sxl,sxm,Int.reduceBEq,Int.reduceBNe,Int.reduceLT,Int.reduceLE,Int.reduceEq,Int.reduceGT,Int.reduceGE,Int.reduceToNat,↓reduceIte,List.reduceReplicate,Nat.reduceAdd,Nat.reduceSub,Nat.reduceMul,Nat.reduceLT,Nat.reduceLeDiff,Nat.reduceBEq,Nat.reduceEqDiff]
 refine ld_olda (by simp [add_block]) m15 id ?_
 simp (config := { maxSteps := 4000000 }) only [↓sxw,sxw,tf149,sxu,sxl,sxm,Int.reduceBEq,Int.reduceBNe,Int.reduceLT,Int.reduceLE,Int.reduceEq,Int.reduceGT,Int.reduceGE,Int.reduceToNat,↓reduceIte,List.reduceReplicate,Nat.reduceAdd,Nat.reduceSub,Nat.reduceMul,Nat.reduceLT,Nat.reduceLeDiff,Nat.reduceBEq,Nat.reduceEqDiff]
 refine at_1 (hrn _) slq_len hqn rfl fun ad5=>?_
 simp (config := { maxSteps := 4000000 }) only [↓sxw,sxw,tf149,sxu,sxl,sxm,Int.reduceBEq,Int.reduceBNe,Int.reduceLT,Int.reduceLE,Int.reduceEq,Int.reduceGT,Int.reduceGE,Int.reduceToNat,↓reduceIte,List.reduceReplicate,Nat.reduceAdd,Nat.reduceSub,Nat.reduceMul,Nat.reduceLT,Nat.reduceLeDiff,Nat.reduceBEq,Nat.reduceEqDiff]
 refine loop_constH (HO.cells b5 234 [I B,I pc,I pz] :: HO.row (.slice (some ⟨b3,0,none⟩) (g.ts + 2) (g.ts + 2)) 235 1 (cat slq (an3.map (aq g.c.depth.length))) :: (FR g.c.depth.length an3 Ny ++ T0)) (HImp.refl _ _) [(17,19),(84,140)] (fun q:Nat × List (List Frm)=>[(84,I q.1)])
  (fun q H1=>q.1 ≤ (nbL g.c.W g.c.H X).length ∧ g.Nxt i R (fun s x j=>s < S ∨ s = S ∧ (x < X ∨ x = X ∧ j < q.1)) q.2 ∧ H1 = HO.cells b5 234 [I B,I pc,I pz] :: HO.row (.slice (some ⟨b3,0,none⟩) (g.ts + 2) (g.ts + 2)) 235 1 (cat slq (an3.map (aq g.c.depth.length))) :: (FR g.c.depth.length an3 q.2 ++ T0)) (fun q=>(nbL g.c.W g.c.H X).length - q.1) (0,Ny) ?_ ⟨Nat.zero_le _,hNy,rfl⟩ ?_
 ·simp (config := { maxSteps := 4000000 }) only [↓sxw,sxw,tf149,sxu,sxl,sxm,Int.reduceBEq,Int.reduceBNe,Int.reduceLT,Int.reduceLE,Int.reduceEq,Int.reduceGT,Int.reduceGE,Int.reduceToNat,↓reduceIte,List.reduceReplicate,Nat.reduceAdd,Nat.reduceSub,Nat.reduceMul,Nat.reduceLT,Nat.reduceLeDiff,Nat.reduceBEq,Nat.reduceEqDiff]
  try simp
 rintro ⟨J,Nz⟩ H4 g4 hinv4
 simp only [] at hinv4
 obtain ⟨hJ,hNz,rfl⟩:=hinv4
 by_cases hJn:J = (nbL g.c.W g.c.H X).length
 ·have e14:((J:Int) < (ql:Int)) = False:=eq_false (by omega)
  refine ⟨?_⟩
  simp (config := { maxSteps := 4000000 }) only [↓sxw,sxw,tf149,sxu,sxl,sxm,Int.reduceBEq,Int.reduceBNe,Int.reduceLT,Int.reduceLE,Int.reduceEq,Int.reduceGT,Int.reduceGE,Int.reduceToNat,↓reduceIte,List.reduceReplicate,Nat.reduceAdd,Nat.reduceSub,Nat.reduceMul,Nat.reduceLT,Nat.reduceLeDiff,Nat.reduceBEq,Nat.reduceEqDiff,e14,e13]
  exact ⟨(X + 1,Nz),_,rfl,HImp.tail _ _ _,⟨by simp only []; omega,hNz.mono fun s0 x0 j h h1 h2 h3 h4=>(by
   by_cases hx0:x0 = X
   ·subst hx0
    omega
   ·omega),rfl⟩,by simp only []; omega⟩
 have e14:((J:Int) < (ql:Int)) = True:=eq_true (by omega)
 have e15:wr (J + 1) = ((J + 1:Nat):Int):=(wrap_id (by omega)).trans (by omega)
 have hJl:J < (nbL g.c.W g.c.H X).length:=by omega
 have hy:=List.getElem?_eq_getElem hJl
 have hyl:=nb_lt hg hXl (List.getElem_mem hJl)
 obtain ⟨y,hye⟩:∃ y,(nbL g.c.W g.c.H X)[J] = y:=⟨_,rfl⟩
 rw [hye] at hy hyl
 have hyi:(nts (nbL g.c.W g.c.H X))[J]? = some (y:Int):=by unfold nts; rw [List.getElem?_map,hy]; rfl
 have hdn:∀ s0 x0 j,(s0 < S ∨ s0 = S ∧ (x0 < X ∨ x0 = X ∧ j < J + 1)) → s0 < g.ts + 2 → x0 < g.c.depth.length → (en R s0 x0).1 ≠ nvr → j < (nbL g.c.W g.c.H x0).length → ((s0 < S ∨ s0 = S ∧ (x0 < X ∨ x0 = X ∧ j < J)) ∨ s0 = S ∧ x0 = X ∧ j = J):=fun s0 x0 j h _ _ _ _=>by omega
 have dS:=detT_eq g (y:=y) (s:=S) (by omega)
 have hst1:=g.st_le (y:=y) hSl
 have hbet:=fun hc hl=>hNz.better (S:=S) (X:=X) (J:=J) hSl hXl hyl (by rw [he]; exact hB) hy hc hl
 obtain ⟨S1,hS1⟩:∃ S1,g.st y S = S1:=⟨_,rfl⟩
 rw [hS1,he] at hbet
 rw [hS1] at dS hst1
 simp only [] at hbet
 have hNzs:=hNz.shape
 have hcur:=en_get hNzs hst1 hyl
 have h3u:=List.getElem?_eq_getElem (show S1 < an3.length by omega)
 have hrow3:=FR_mem (n:=g.c.depth.length) (aa:=an3) (R:=Nz) (by rw [han3,hNzs.1]) (s:=S1) (by omega)
 have hF3:=FR_at (n:=g.c.depth.length) (aa:=an3) (R:=Nz) (by rw [han3,hNzs.1]) (s:=S1) (by omega)
 obtain ⟨a3,hS1a⟩:∃ a3,an3[S1]'(by omega) = a3:=⟨_,rfl⟩
 rw [hS1a] at h3u hrow3 hF3
 have hq3:(an3.map (aq g.c.depth.length))[S1]? = some (aq g.c.depth.length a3):=by rw [List.getElem?_map,h3u]; rfl
 have hct:(canL g.c g.b)[g.t + 1 + i]? = some (canT g.c g.b (g.t + i + 1)):=by
  unfold canL
  rw [List.getElem?_map,List.getElem?_range (by omega),show g.t + 1 + i = g.t + i + 1 by omega]
  try rfl
 obtain ⟨qc,hqc,hqcs⟩:=hcv _ _ hct
 have hqcr:=hqcs.rd0
 have hqcl:=hqcs.le b1_len (by omega)
 have hcm:(canT g.c g.b (g.t + i + 1))[y]? = some (canB g.c g.b (g.t + i + 1) y):=by
  unfold canT
  rw [List.getElem?_map,List.getElem?_range hyl]
  try rfl
 obtain ⟨qca,qcl,qcc⟩:=qc
 simp only [] at hqcr hqcl hqcs
 have hctl:(canT g.c g.b (g.t + i + 1)).length = g.c.depth.length:=by unfold canT; rw [List.length_map,List.length_range]
 have hcb:=(clsB_iff g.b).1 hg.cls
 have eM:wr (B + g.b.move) = B + g.b.move:=wrap_id (by omega)
 by_cases hyX:y = X
 case neg=>
  have p2:((y:Int) = (X:Int)) = False:=eq_false (by omega)
  have hW:B + g.b.move = B + g.wg X y:=by unfold Vg.wg; rw [if_neg hyX]
  have eM2:wr (B + g.b.move) = B + g.wg X y:=eM.trans hW
  refine ⟨?_⟩
  simp (config := { maxSteps := 4000000 }) only [↓sxw,sxw,tf149,sxu,sxl,sxm,Int.reduceBEq,Int.reduceBNe,Int.reduceLT,Int.reduceLE,Int.reduceEq,Int.reduceGT,Int.reduceGE,Int.reduceToNat,↓reduceIte,List.reduceReplicate,Nat.reduceAdd,Nat.reduceSub,Nat.reduceMul,Nat.reduceLT,Nat.reduceLeDiff,Nat.reduceBEq,Nat.reduceEqDiff,e14]
  refine amid (at_1 (hqnr _) i1_len hyi rfl fun ad6=>?_)
  simp (config := { maxSteps := 4000000 }) only [↓sxw,sxw,tf149,sxu,sxl,sxm,Int.reduceBEq,Int.reduceBNe,Int.reduceLT,Int.reduceLE,Int.reduceEq,Int.reduceGT,Int.reduceGE,Int.reduceToNat,↓reduceIte,List.reduceReplicate,Nat.reduceAdd,Nat.reduceSub,Nat.reduceMul,Nat.reduceLT,Nat.reduceLeDiff,Nat.reduceBEq,Nat.reduceEqDiff,pl149_lk]
  refine ld_cella (T:=234) (cs:=[I B,I pc,I pz]) List.mem_cons_self rfl ?_
  simp (config := { maxSteps := 4000000 }) only [↓sxw,sxw,tf149,sxu,sxl,sxm,Int.reduceBEq,Int.reduceBNe,Int.reduceLT,Int.reduceLE,Int.reduceEq,Int.reduceGT,Int.reduceGE,Int.reduceToNat,↓reduceIte,List.reduceReplicate,Nat.reduceAdd,Nat.reduceSub,Nat.reduceMul,Nat.reduceLT,Nat.reduceLeDiff,Nat.reduceBEq,Nat.reduceEqDiff]
  refine ld_cell (T:=148) (cs:=[.pointer (some ⟨bs,0,none⟩)]) (List.mem_cons_of_mem _ (List.mem_cons_of_mem _ (List.mem_append_right _ tX))) rfl ?_
  simp (config := { maxSteps := 4000000 }) only [↓sxw,sxw,tf149,sxu,sxl,sxm,Int.reduceBEq,Int.reduceBNe,Int.reduceLT,Int.reduceLE,Int.reduceEq,Int.reduceGT,Int.reduceGE,Int.reduceToNat,↓reduceIte,List.reduceReplicate,Nat.reduceAdd,Nat.reduceSub,Nat.reduceMul,Nat.reduceLT,Nat.reduceLeDiff,Nat.reduceBEq,Nat.reduceEqDiff]
  refine ld_olda (by simp [add_block]) m7 id ?_
  simp (config := { maxSteps := 4000000 }) only [↓sxw,sxw,tf149,sxu,sxl,sxm,Int.reduceBEq,Int.reduceBNe,Int.reduceLT,Int.reduceLE,Int.reduceEq,Int.reduceGT,Int.reduceGE,Int.reduceToNat,↓reduceIte,List.reduceReplicate,Nat.reduceAdd,Nat.reduceSub,Nat.reduceMul,Nat.reduceLT,Nat.reduceLeDiff,Nat.reduceBEq,Nat.reduceEqDiff,eM2,p2]
  refine ld_cells (T:=102) (cs:=[I g.tc,I g.ts]) [I g.tc,I g.ts] (List.mem_cons_of_mem _ (List.mem_cons_of_mem _ (List.mem_append_right _ tK))) rfl rfl ?_
  simp (config := { maxSteps := 4000000 }) only [↓sxw,sxw,tf149,sxu,sxl,sxm,Int.reduceBEq,Int.reduceBNe,Int.reduceLT,Int.reduceLE,Int.reduceEq,Int.reduceGT,Int.reduceGE,Int.reduceToNat,↓reduceIte,List.reduceReplicate,Nat.reduceAdd,Nat.reduceSub,Nat.reduceMul,Nat.reduceLT,Nat.reduceLeDiff,Nat.reduceBEq,Nat.reduceEqDiff,dS]
  refine at_1 (row_rdS (E:=235) (List.mem_cons_of_mem _ List.mem_cons_self) slq_len (by rw [List.length_map,han3])) slq_len hq3 (show slq (aq _ _) = [Value.slice (some a3) g.c.depth.length g.c.depth.length] from rfl) fun ad6=>?_
  simp (config := { maxSteps := 4000000 }) only [↓sxw,sxw,tf149,sxu,sxl,sxm,Int.reduceBEq,Int.reduceBNe,Int.reduceLT,Int.reduceLE,Int.reduceEq,Int.reduceGT,Int.reduceGE,Int.reduceToNat,↓reduceIte,List.reduceReplicate,Nat.reduceAdd,Nat.reduceSub,Nat.reduceMul,Nat.reduceLT,Nat.reduceLeDiff,Nat.reduceBEq,Nat.reduceEqDiff]
  refine ⟨by omega,by omega,_,rfl,?_⟩
  refine ld_cell (T:=148) (cs:=[.pointer (some ⟨bs,0,none⟩)]) (List.mem_cons_of_mem _ (List.mem_cons_of_mem _ (List.mem_append_right _ tX))) rfl ?_
  simp (config := { maxSteps := 4000000 }) only [↓sxw,sxw,tf149,sxu,sxl,sxm,Int.reduceBEq,Int.reduceBNe,Int.reduceLT,Int.reduceLE,Int.reduceEq,Int.reduceGT,Int.reduceGE,Int.reduceToNat,↓reduceIte,List.reduceReplicate,Nat.reduceAdd,Nat.reduceSub,Nat.reduceMul,Nat.reduceLT,Nat.reduceLeDiff,Nat.reduceBEq,Nat.reduceEqDiff]
  refine ld_olda (by simp [add_block]) m14 id ?_
  simp (config := { maxSteps := 4000000 }) only [↓sxw,sxw,tf149,sxu,sxl,sxm,Int.reduceBEq,Int.reduceBNe,Int.reduceLT,Int.reduceLE,Int.reduceEq,Int.reduceGT,Int.reduceGE,Int.reduceToNat,↓reduceIte,List.reduceReplicate,Nat.reduceAdd,Nat.reduceSub,Nat.reduceMul,Nat.reduceLT,Nat.reduceLeDiff,Nat.reduceBEq,Nat.reduceEqDiff]
  refine at_1 (hrc _) slq_len hqc rfl fun ad7=>?_
  simp (config := { maxSteps := 4000000 }) only [↓sxw,sxw,tf149,sxu,sxl,sxm,Int.reduceBEq,Int.reduceBNe,Int.reduceLT,Int.reduceLE,Int.reduceEq,Int.reduceGT,Int.reduceGE,Int.reduceToNat,↓reduceIte,List.reduceReplicate,Nat.reduceAdd,Nat.reduceSub,Nat.reduceMul,Nat.reduceLT,Nat.reduceLeDiff,Nat.reduceBEq,Nat.reduceEqDiff]
  refine at_1 (hqcr _) b1_len hcm rfl fun ad8=>?_
  cases hcan:canB g.c g.b (g.t + i + 1) y with
  | false=>
   simp (config := { maxSteps := 4000000 }) only [↓sxw,sxw,tf149,sxu,sxl,sxm,Int.reduceBEq,Int.reduceBNe,Int.reduceLT,Int.reduceLE,Int.reduceEq,Int.reduceGT,Int.reduceGE,Int.reduceToNat,↓reduceIte,List.reduceReplicate,Nat.reduceAdd,Nat.reduceSub,Nat.reduceMul,Nat.reduceLT,Nat.reduceLeDiff,Nat.reduceBEq,Nat.reduceEqDiff,e15]
   exact ⟨(J + 1,Nz),_,rfl,HImp.refl _ _,⟨by simp only []; omega,(hNz.skip (S:=S) hy (fun h=>absurd h (by rw [hcan]; exact Bool.false_ne_true))).mono hdn,rfl⟩,by simp only []; omega⟩
  | true=>
  simp (config := { maxSteps := 4000000 }) only [↓sxw,sxw,tf149,sxu,sxl,sxm,Int.reduceBEq,Int.reduceBNe,Int.reduceLT,Int.reduceLE,Int.reduceEq,Int.reduceGT,Int.reduceGE,Int.reduceToNat,↓reduceIte,List.reduceReplicate,Nat.reduceAdd,Nat.reduceSub,Nat.reduceMul,Nat.reduceLT,Nat.reduceLeDiff,Nat.reduceBEq,Nat.reduceEqDiff]
  refine ld_row (E:=234) (o:=0) (List.mem_cons_of_mem _ (List.mem_cons_of_mem _ (List.mem_append_left _ hrow3))) frc_len (hNzs.2 _ hst1) hcur (show (frc _)[0]? = some (I (en Nz S1 y).1) from rfl) ?_
  by_cases hlt:B + g.wg X y < (en Nz S1 y).1
  ·have p3:(B + g.wg X y < (en Nz S1 y).1) = True:=eq_true hlt
   simp (config := { maxSteps := 4000000 }) only [↓sxw,sxw,tf149,sxu,sxl,sxm,Int.reduceBEq,Int.reduceBNe,Int.reduceLT,Int.reduceLE,Int.reduceEq,Int.reduceGT,Int.reduceGE,Int.reduceToNat,↓reduceIte,List.reduceReplicate,Nat.reduceAdd,Nat.reduceSub,Nat.reduceMul,Nat.reduceLT,Nat.reduceLeDiff,Nat.reduceBEq,Nat.reduceEqDiff,p3]
   refine wr_at (A:=HO.cells b5 234 [I B,I pc,I pz] :: HO.row (.slice (some ⟨b3,0,none⟩) (g.ts + 2) (g.ts + 2)) 235 1 (cat slq (an3.map (aq g.c.depth.length))) :: FR g.c.depth.length (an3.take S1) (Nz.take S1)) (B:=FR g.c.depth.length (an3.drop (S1 + 1)) (Nz.drop (S1 + 1)) ++ T0) (f:=frc) (l:=Nz.getD S1 []) (u:=((B + g.wg X y,(X:Int),(S:Int)):Frm)) (by rw [hF3,List.append_assoc]; rfl) frc_len (hNzs.2 _ hst1) (by rw [hNzs.2 _ hst1]; exact hyl) ?_
   simp (config := { maxSteps := 4000000 }) only [↓sxw,sxw,tf149,sxu,sxl,sxm,Int.reduceBEq,Int.reduceBNe,Int.reduceLT,Int.reduceLE,Int.reduceEq,Int.reduceGT,Int.reduceGE,Int.reduceToNat,↓reduceIte,List.reduceReplicate,Nat.reduceAdd,Nat.reduceSub,Nat.reduceMul,Nat.reduceLT,Nat.reduceLeDiff,Nat.reduceBEq,Nat.reduceEqDiff,e15]
   refine ⟨(J + 1,setE Nz S1 y (B + g.wg X y,(X:Int),(S:Int))),_,rfl,?_,⟨by simp only []; omega,(hbet hcan hlt).mono hdn,rfl⟩,by simp only []; omega⟩
   unfold setE
   rw [FR_set (by rw [han3,hNzs.1]) (by omega),hS1a]
   rw [List.append_assoc]
   exact HImp.refl _ _
  ·have p3:(B + g.wg X y < (en Nz S1 y).1) = False:=eq_false hlt
   simp (config := { maxSteps := 4000000 }) only [↓sxw,sxw,tf149,sxu,sxl,sxm,Int.reduceBEq,Int.reduceBNe,Int.reduceLT,Int.reduceLE,Int.reduceEq,Int.reduceGT,Int.reduceGE,Int.reduceToNat,↓reduceIte,List.reduceReplicate,Nat.reduceAdd,Nat.reduceSub,Nat.reduceMul,Nat.reduceLT,Nat.reduceLeDiff,Nat.reduceBEq,Nat.reduceEqDiff,p3,e15]
   exact ⟨(J + 1,Nz),_,rfl,HImp.refl _ _,⟨by simp only []; omega,(hNz.skip (S:=S) hy (fun _=>by rw [hS1,he]; simp only []; omega)).mono hdn,rfl⟩,by simp only []; omega⟩
 case pos=>
  have p2:((y:Int) = (X:Int)) = True:=eq_true (by omega)
  have hW:B + g.b.idle = B + g.wg X y:=by unfold Vg.wg; rw [if_pos hyX]
  have eI:wr (B + g.b.idle) = B + g.wg X y:=(wrap_id (by omega)).trans hW
  refine ⟨?_⟩
  simp (config := { maxSteps := 4000000 }) only [↓sxw,sxw,tf149,sxu,sxl,sxm,Int.reduceBEq,Int.reduceBNe,Int.reduceLT,Int.reduceLE,Int.reduceEq,Int.reduceGT,Int.reduceGE,Int.reduceToNat,↓reduceIte,List.reduceReplicate,Nat.reduceAdd,Nat.reduceSub,Nat.reduceMul,Nat.reduceLT,Nat.reduceLeDiff,Nat.reduceBEq,Nat.reduceEqDiff,e14]
  refine amid (at_1 (hqnr _) i1_len hyi rfl fun ad6=>?_)
  simp (config := { maxSteps := 4000000 }) only [↓sxw,sxw,tf149,sxu,sxl,sxm,Int.reduceBEq,Int.reduceBNe,Int.reduceLT,Int.reduceLE,Int.reduceEq,Int.reduceGT,Int.reduceGE,Int.reduceToNat,↓reduceIte,List.reduceReplicate,Nat.reduceAdd,Nat.reduceSub,Nat.reduceMul,Nat.reduceLT,Nat.reduceLeDiff,Nat.reduceBEq,Nat.reduceEqDiff,pl149_lk]
  refine ld_cella (T:=234) (cs:=[I B,I pc,I pz]) List.mem_cons_self rfl ?_
  simp (config := { maxSteps := 4000000 }) only [↓sxw,sxw,tf149,sxu,sxl,sxm,Int.reduceBEq,Int.reduceBNe,Int.reduceLT,Int.reduceLE,Int.reduceEq,Int.reduceGT,Int.reduceGE,Int.reduceToNat,↓reduceIte,List.reduceReplicate,Nat.reduceAdd,Nat.reduceSub,Nat.reduceMul,Nat.reduceLT,Nat.reduceLeDiff,Nat.reduceBEq,Nat.reduceEqDiff]
  refine ld_cell (T:=148) (cs:=[.pointer (some ⟨bs,0,none⟩)]) (List.mem_cons_of_mem _ (List.mem_cons_of_mem _ (List.mem_append_right _ tX))) rfl ?_
  simp (config := { maxSteps := 4000000 }) only [↓sxw,sxw,tf149,sxu,sxl,sxm,Int.reduceBEq,Int.reduceBNe,Int.reduceLT,Int.reduceLE,Int.reduceEq,Int.reduceGT,Int.reduceGE,Int.reduceToNat,↓reduceIte,List.reduceReplicate,Nat.reduceAdd,Nat.reduceSub,Nat.reduceMul,Nat.reduceLT,Nat.reduceLeDiff,Nat.reduceBEq,Nat.reduceEqDiff]
  refine ld_olda (by simp [add_block]) m7 id ?_
  simp (config := { maxSteps := 4000000 }) only [↓sxw,sxw,tf149,sxu,sxl,sxm,Int.reduceBEq,Int.reduceBNe,Int.reduceLT,Int.reduceLE,Int.reduceEq,Int.reduceGT,Int.reduceGE,Int.reduceToNat,↓reduceIte,List.reduceReplicate,Nat.reduceAdd,Nat.reduceSub,Nat.reduceMul,Nat.reduceLT,Nat.reduceLeDiff,Nat.reduceBEq,Nat.reduceEqDiff,eM,p2,pl149_lk]
  refine ld_cella (T:=234) (cs:=[I B,I pc,I pz]) List.mem_cons_self rfl ?_
  simp (config := { maxSteps := 4000000 }) only [↓sxw,sxw,tf149,sxu,sxl,sxm,Int.reduceBEq,Int.reduceBNe,Int.reduceLT,Int.reduceLE,Int.reduceEq,Int.reduceGT,Int.reduceGE,Int.reduceToNat,↓reduceIte,List.reduceReplicate,Nat.reduceAdd,Nat.reduceSub,Nat.reduceMul,Nat.reduceLT,Nat.reduceLeDiff,Nat.reduceBEq,Nat.reduceEqDiff]
  refine ld_cell (T:=148) (cs:=[.pointer (some ⟨bs,0,none⟩)]) (List.mem_cons_of_mem _ (List.mem_cons_of_mem _ (List.mem_append_right _ tX))) rfl ?_
  simp (config := { maxSteps := 4000000 }) only [↓sxw,sxw,tf149,sxu,sxl,sxm,Int.reduceBEq,Int.reduceBNe,Int.reduceLT,Int.reduceLE,Int.reduceEq,Int.reduceGT,Int.reduceGE,Int.reduceToNat,↓reduceIte,List.reduceReplicate,Nat.reduceAdd,Nat.reduceSub,Nat.reduceMul,Nat.reduceLT,Nat.reduceLeDiff,Nat.reduceBEq,Nat.reduceEqDiff]
  refine ld_olda (by simp [add_block]) m8 id ?_
  simp (config := { maxSteps := 4000000 }) only [↓sxw,sxw,tf149,sxu,sxl,sxm,Int.reduceBEq,Int.reduceBNe,Int.reduceLT,Int.reduceLE,Int.reduceEq,Int.reduceGT,Int.reduceGE,Int.reduceToNat,↓reduceIte,List.reduceReplicate,Nat.reduceAdd,Nat.reduceSub,Nat.reduceMul,Nat.reduceLT,Nat.reduceLeDiff,Nat.reduceBEq,Nat.reduceEqDiff,eI]
  refine ld_cells (T:=102) (cs:=[I g.tc,I g.ts]) [I g.tc,I g.ts] (List.mem_cons_of_mem _ (List.mem_cons_of_mem _ (List.mem_append_right _ tK))) rfl rfl ?_
  simp (config := { maxSteps := 4000000 }) only [↓sxw,sxw,tf149,sxu,sxl,sxm,Int.reduceBEq,Int.reduceBNe,Int.reduceLT,Int.reduceLE,Int.reduceEq,Int.reduceGT,Int.reduceGE,Int.reduceToNat,↓reduceIte,List.reduceReplicate,Nat.reduceAdd,Nat.reduceSub,Nat.reduceMul,Nat.reduceLT,Nat.reduceLeDiff,Nat.reduceBEq,Nat.reduceEqDiff,dS]
  refine at_1 (row_rdS (E:=235) (List.mem_cons_of_mem _ List.mem_cons_self) slq_len (by rw [List.length_map,han3])) slq_len hq3 (show slq (aq _ _) = [Value.slice (some a3) g.c.depth.length g.c.depth.length] from rfl) fun ad6=>?_
  simp (config := { maxSteps := 4000000 }) only [↓sxw,sxw,tf149,sxu,sxl,sxm,Int.reduceBEq,Int.reduceBNe,Int.reduceLT,Int.reduceLE,Int.reduceEq,Int.reduceGT,Int.reduceGE,Int.reduceToNat,↓reduceIte,List.reduceReplicate,Nat.reduceAdd,Nat.reduceSub,Nat.reduceMul,Nat.reduceLT,Nat.reduceLeDiff,Nat.reduceBEq,Nat.reduceEqDiff]
  refine ⟨by omega,by omega,_,rfl,?_⟩
  refine ld_cell (T:=148) (cs:=[.pointer (some ⟨bs,0,none⟩)]) (List.mem_cons_of_mem _ (List.mem_cons_of_mem _ (List.mem_append_right _ tX))) rfl ?_
  simp (config := { maxSteps := 4000000 }) only [↓sxw,sxw,tf149,sxu,sxl,sxm,Int.reduceBEq,Int.reduceBNe,Int.reduceLT,Int.reduceLE,Int.reduceEq,Int.reduceGT,Int.reduceGE,Int.reduceToNat,↓reduceIte,List.reduceReplicate,Nat.reduceAdd,Nat.reduceSub,Nat.reduceMul,Nat.reduceLT,Nat.reduceLeDiff,Nat.reduceBEq,Nat.reduceEqDiff]
  refine ld_olda (by simp [add_block]) m14 id ?_
  simp (config := { maxSteps := 4000000 }) only [↓sxw,sxw,tf149,sxu,sxl,sxm,Int.reduceBEq,Int.reduceBNe,Int.reduceLT,Int.reduceLE,Int.reduceEq,Int.reduceGT,Int.reduceGE,Int.reduceToNat,↓reduceIte,List.reduceReplicate,Nat.reduceAdd,Nat.reduceSub,Nat.reduceMul,Nat.reduceLT,Nat.reduceLeDiff,Nat.reduceBEq,Nat.reduceEqDiff]
  refine at_1 (hrc _) slq_len hqc rfl fun ad7=>?_
  simp (config := { maxSteps := 4000000 }) only [↓sxw,sxw,tf149,sxu,sxl,sxm,Int.reduceBEq,Int.reduceBNe,Int.reduceLT,Int.reduceLE,Int.reduceEq,Int.reduceGT,Int.reduceGE,Int.reduceToNat,↓reduceIte,List.reduceReplicate,Nat.reduceAdd,Nat.reduceSub,Nat.reduceMul,Nat.reduceLT,Nat.reduceLeDiff,Nat.reduceBEq,Nat.reduceEqDiff]
  refine at_1 (hqcr _) b1_len hcm rfl fun ad8=>?_
  cases hcan:canB g.c g.b (g.t + i + 1) y with
  | false=>
   simp (config := { maxSteps := 4000000 }) only [↓sxw,sxw,tf149,sxu,sxl,sxm,Int.reduceBEq,Int.reduceBNe,Int.reduceLT,Int.reduceLE,Int.reduceEq,Int.reduceGT,Int.reduceGE,Int.reduceToNat,↓reduceIte,List.reduceReplicate,Nat.reduceAdd,Nat.reduceSub,Nat.reduceMul,Nat.reduceLT,Nat.reduceLeDiff,Nat.reduceBEq,Nat.reduceEqDiff,e15]
   exact ⟨(J + 1,Nz),_,rfl,HImp.refl _ _,⟨by simp only []; omega,(hNz.skip (S:=S) hy (fun h=>absurd h (by rw [hcan]; exact Bool.false_ne_true))).mono hdn,rfl⟩,by simp only []; omega⟩
  | true=>
  simp (config := { maxSteps := 4000000 }) only [↓sxw,sxw,tf149,sxu,sxl,sxm,Int.reduceBEq,Int.reduceBNe,Int.reduceLT,Int.reduceLE,Int.reduceEq,Int.reduceGT,Int.reduceGE,Int.reduceToNat,↓reduceIte,List.reduceReplicate,Nat.reduceAdd,Nat.reduceSub,Nat.reduceMul,Nat.reduceLT,Nat.reduceLeDiff,Nat.reduceBEq,Nat.reduceEqDiff]
  refine ld_row (E:=234) (o:=0) (List.mem_cons_of_mem _ (List.mem_cons_of_mem _ (List.mem_append_left _ hrow3))) frc_len (hNzs.2 _ hst1) hcur (show (frc _)[0]? = some (I (en Nz S1 y).1) from rfl) ?_
  by_cases hlt:B + g.wg X y < (en Nz S1 y).1
  ·have p3:(B + g.wg X y < (en Nz S1 y).1) = True:=eq_true hlt
   simp (config := { maxSteps := 4000000 }) only [↓sxw,sxw,tf149,sxu,sxl,sxm,Int.reduceBEq,Int.reduceBNe,Int.reduceLT,Int.reduceLE,Int.reduceEq,Int.reduceGT,Int.reduceGE,Int.reduceToNat,↓reduceIte,List.reduceReplicate,Nat.reduceAdd,Nat.reduceSub,Nat.reduceMul,Nat.reduceLT,Nat.reduceLeDiff,Nat.reduceBEq,Nat.reduceEqDiff,p3]
   refine wr_at (A:=HO.cells b5 234 [I B,I pc,I pz] :: HO.row (.slice (some ⟨b3,0,none⟩) (g.ts + 2) (g.ts + 2)) 235 1 (cat slq (an3.map (aq g.c.depth.length))) :: FR g.c.depth.length (an3.take S1) (Nz.take S1)) (B:=FR g.c.depth.length (an3.drop (S1 + 1)) (Nz.drop (S1 + 1)) ++ T0) (f:=frc) (l:=Nz.getD S1 []) (u:=((B + g.wg X y,(X:Int),(S:Int)):Frm)) (by rw [hF3,List.append_assoc]; rfl) frc_len (hNzs.2 _ hst1) (by rw [hNzs.2 _ hst1]; exact hyl) ?_
   simp (config := { maxSteps := 4000000 }) only [↓sxw,sxw,tf149,sxu,sxl,sxm,Int.reduceBEq,Int.reduceBNe,Int.reduceLT,Int.reduceLE,Int.reduceEq,Int.reduceGT,Int.reduceGE,Int.reduceToNat,↓reduceIte,List.reduceReplicate,Nat.reduceAdd,Nat.reduceSub,Nat.reduceMul,Nat.reduceLT,Nat.reduceLeDiff,Nat.reduceBEq,Nat.reduceEqDiff,e15]
   refine ⟨(J + 1,setE Nz S1 y (B + g.wg X y,(X:Int),(S:Int))),_,rfl,?_,⟨by simp only []; omega,(hbet hcan hlt).mono hdn,rfl⟩,by simp only []; omega⟩
   unfold setE
   rw [FR_set (by rw [han3,hNzs.1]) (by omega),hS1a]
   rw [List.append_assoc]
   exact HImp.refl _ _
  ·have p3:(B + g.wg X y < (en Nz S1 y).1) = False:=eq_false hlt
   simp (config := { maxSteps := 4000000 }) only [↓sxw,sxw,tf149,sxu,sxl,sxm,Int.reduceBEq,Int.reduceBNe,Int.reduceLT,Int.reduceLE,Int.reduceEq,Int.reduceGT,Int.reduceGE,Int.reduceToNat,↓reduceIte,List.reduceReplicate,Nat.reduceAdd,Nat.reduceSub,Nat.reduceMul,Nat.reduceLT,Nat.reduceLeDiff,Nat.reduceBEq,Nat.reduceEqDiff,p3,e15]
   exact ⟨(J + 1,Nz),_,rfl,HImp.refl _ _,⟨by simp only []; omega,(hNz.skip (S:=S) hy (fun _=>by rw [hS1,he]; simp only []; omega)).mono hdn,rfl⟩,by simp only []; omega⟩
end Go.Proofs.YtljpknnhimkkjaaGreatDoor

namespace Go.Proofs.YtljpknnhimkkjaaGreatDoor
open Go.RowKit Go.SX
set_option maxRecDepth 10000
set_option maxHeartbeats 4000000
set_option linter.unusedSimpArgs false
set_option linter.unusedVariables false
inductive Vg.P (g:Vg):List Nat → Nat → Int → Prop
 | zero:g.P [g.k] (g.st g.k 0) 0
 | step {L:List Nat} {x y s:Nat} {B:Int}:g.P (L ++ [x]) s B → y ∈ nbL g.c.W g.c.H x → canB g.c g.b (g.t + L.length + 1) y = true → g.P (L ++ [x] ++ [y]) (g.st y s) (B + g.wg x y)
theorem Vg.P.r {g:Vg} {L:List Nat} {s:Nat} {B:Int} (h:g.P L s B):∃ L' x,L = L' ++ [x] ∧ g.R L'.length s x B:=by
 induction h with
 | zero=>exact ⟨[],g.k,rfl,Vg.R.zero⟩
 | @step L x y s B _ hy hc ih=>
  obtain ⟨L',x',he,hr⟩:=ih
  obtain ⟨rfl,hx⟩:=List.append_inj' he rfl
  cases hx
  exact ⟨L ++ [x],y,rfl,by rw [List.length_append,List.length_singleton]; exact Vg.R.step hr hy hc⟩
theorem Vg.R.p {g:Vg} {i s x:Nat} {B:Int} (h:g.R i s x B):∃ L,L.length = i ∧ g.P (L ++ [x]) s B:=by
 induction h with
 | zero=>exact ⟨[],rfl,Vg.P.zero⟩
 | @step i s x y B _ hy hc ih=>
  obtain ⟨L,hl,hp⟩:=ih
  exact ⟨L ++ [x],by rw [List.length_append,List.length_singleton,hl],Vg.P.step hp hy (by rw [hl]; exact hc)⟩
structure Vg.Best (g:Vg) (rdy:Nat → Bool) (m:Nat) (B:Int):Prop where
 lt:g.t + m < g.c.tide.length
 isr:rdy (g.t + m) = true
 r:g.R m (g.ts + 1) g.k B
 least:∀ i B',g.t + i < g.c.tide.length → rdy (g.t + i) = true → g.R i (g.ts + 1) g.k B' → B ≤ B' ∧ (B' = B → m ≤ i)
def Vg.None (g:Vg) (rdy:Nat → Bool):Prop:=∀ i B',g.t + i < g.c.tide.length → rdy (g.t + i) = true → ¬ g.R i (g.ts + 1) g.k B'
def Vg.PE (g:Vg) (L:List Nat) (B:Int):Prop:=g.P L (g.ts + 1) B ∧ L.getLast? = some g.k
def HomeP (g:Vg) (rdy:Nat → Bool) (q:Value) (N:List HO):Prop:=(g.None rdy ∧ q = .tuple #[.agg #[.slice none 0 0,I 0],.bool false]) ∨
 ∃ m B L x,g.Best rdy m B ∧ g.PE L B ∧ L.length = m + 1 ∧ q = .tuple #[.agg #[x,I B],.bool true] ∧ Got x 3 1 i1 (nts L) N
def TabW (g:Vg) (w:World) (v:Value) (R:List (List Frm)):Prop:=∃ vs:List (Option Addr × Nat × Nat),vs.length = g.ts + 2 ∧ Sl w v 1 (cat slq vs) ∧ ∀ s,s < g.ts + 2 → ∃ q,vs[s]? = some q ∧ Sl w (.slice q.1 q.2.1 q.2.2) 3 (cat frc (R.getD s []))
def LogW (g:Vg) (w:World) (v:Value) (tabs:List (List (List Frm))):Prop:=∃ qs:List (Option Addr × Nat × Nat),qs.length = tabs.length ∧ Sl w v 1 (cat slq qs) ∧ ∀ (i:Nat) R,tabs[i]? = some R → ∃ q,qs[i]? = some q ∧ TabW g w (.slice q.1 q.2.1 q.2.2) R
theorem LogM.w {g:Vg} {N H:List HO} {qs:List (Option Addr × Nat × Nat)} {tabs:List (List (List Frm))} (h:LogM g N qs tabs) (hT:g.Tabs tabs) {v:Value} (hv:HO.row v 236 1 (cat slq qs) ∈ N) (hm:∀ h ∈ N,h ∈ H) {w0:Base} {w:World} (hp:Hp w0 H w):LogW g w v tabs:=by
 refine ⟨qs,h.1,row_hp (hm _ hv) hp,fun i R hR=>?_⟩
 obtain ⟨b,aa,h1,h2,h3,h4⟩:=h.2 i R hR
 have hsh:=(hT.1 i R hR).shape
 refine ⟨_,h1,aa.map (aq g.c.depth.length),by rw [List.length_map]; exact h2,row_hp (hm _ h3) hp,fun s hs=>?_⟩
 exact ⟨aq g.c.depth.length (aa[s]'(by omega)),by rw [List.getElem?_map,List.getElem?_eq_getElem (show s < aa.length by omega)]; rfl,row_hp (hm _ (h4 _ (FR_mem (by rw [h2,hsh.1]) (by omega)))) hp⟩
theorem LogW.hp {g:Vg} {w0:World} {v:Value} {tabs:List (List (List Frm))} (h:LogW g w0 v tabs) {H:List HO} {w:World} (hp:Hp ⟨w0,fun _=>False⟩ H w):LogW g w v tabs:=by
 obtain ⟨qs,h1,h2,h3⟩:=h
 refine ⟨qs,h1,Sl.hp (w0:=⟨w0,fun _=>False⟩) h2 (fun _ _=>id) hp,fun i R hR=>?_⟩
 obtain ⟨q,k1,vs,k2,k3,k4⟩:=h3 i R hR
 refine ⟨q,k1,vs,k2,Sl.hp (w0:=⟨w0,fun _=>False⟩) k3 (fun _ _=>id) hp,fun s hs=>?_⟩
 obtain ⟨q',j1,j2⟩:=k4 s hs
 exact ⟨q',j1,Sl.hp (w0:=⟨w0,fun _=>False⟩) j2 (fun _ _=>id) hp⟩
theorem Vg.Tab.iff {g:Vg} (hg:g.Ok) {i:Nat} (hi:i ≤ 100) {R:List (List Frm)} (hT:g.Tab i R) {s x:Nat} (hs:s < g.ts + 2) (hx:x < g.c.depth.length):(∃ B,g.R i s x B) ↔ (en R s x).1 ≠ nvr:=by
 constructor
 ·rintro ⟨B,hr⟩ h
  have h1:=hT.least s x B hr
  have h2:=g.R_bd hg hr
  unfold nvr at h
  omega
 ·exact fun h=>⟨_,hT.att s x hs hx h⟩
end Go.Proofs.YtljpknnhimkkjaaGreatDoor

namespace Go.Proofs.YtljpknnhimkkjaaGreatDoor
open Go.RowKit Go.SX
set_option maxRecDepth 10000
set_option maxHeartbeats 0
set_option linter.unusedSimpArgs false
set_option linter.unusedVariables false
theorem home5_fn (w:World) (bs:Nat) (g:Vg) (hg:g.Ok) (r:Rmp) (hkr:r.cell = g.k) (hst:StaOk w bs g.c g.b r.cell (rdyL g.c g.b r) (canL g.c g.b) (nearL g.c)) (vl:Value) (tabs:List (List (List Frm))) (hlog:LogW g w vl tabs) (hTb:g.Tabs tabs) (htl:tabs.length = g.c.tide.length - g.t):
  SX.Fn Tryz.prog 148 [.pointer (some ⟨bs,0,none⟩),.agg #[I g.tc,I g.ts],I g.t,vl] w (fun _=>False) (HomeP g (rdyB g.c g.b r)):=by
 obtain ⟨sD,sT,sS,vr,vc,vn,hcs,hch,hrd,hcn,hnr⟩:=hst
 obtain ⟨ar,nr,cr,rfl⟩:=hrd.shape
 have hnr':=hrd.le b1_len (by omega)
 have hrl:(rdyL g.c g.b r).length = g.c.tide.length:=by unfold rdyL; rw [List.length_map,List.length_range]
 rw [hrl] at hnr'
 subst hnr'
 have hrr:=hrd.rd0
 have h60:=hg.ok.2.2.2.1.2
 have hts:=hg.ts
 have hk0:=hg.k
 have ht0:=hg.t
 have h144:g.c.depth.length < 200:=by have:=hg.ok.dims; obtain ⟨_,_,h1,h2,h3⟩:=this; rw [h3]; exact Nat.lt_of_le_of_lt (Nat.mul_le_mul h1.2 h2.2) (by decide)
 have m12:=hcs 12 _ rfl
 have m13:=hcs 13 _ rfl
 rw [hkr] at m12
 obtain ⟨qs,hqsl,hqss,hqs⟩:=hlog
 obtain ⟨aL,nL,cL,rfl⟩:=hqss.shape
 have hnL:=hqss.le slq_len (by omega)
 have hrL:=hqss.rd0
 have e0:wr ((g.ts:Int) + 1) = ((g.ts + 1:Nat):Int):=(wrap_id (by omega)).trans (by omega)
 have hrt:∀ i,g.t + i < g.c.tide.length → (rdyL g.c g.b r)[g.t + i]? = some (rdyB g.c g.b r (g.t + i)):=fun i hi=>by unfold rdyL; rw [List.getElem?_map,List.getElem?_range hi]; rfl
 obtain ⟨rd,hrdE⟩:∃ rd,rdyB g.c g.b r = rd:=⟨_,rfl⟩
 rw [hrdE] at hrt ⊢
 refine walk [17] [] (det0_ok _ _) Tryz.func148 rfl Tryz.ntmps148 res148 (by kernel_rfl) no_facts ?_
 simp (config := { maxSteps := 4000000 }) only [↓sxw,sxw,tf148,sxu,sxl,sxm,Int.reduceBEq,Int.reduceBNe,Int.reduceLT,Int.reduceLE,Int.reduceEq,Int.reduceGT,Int.reduceGE,Int.reduceToNat,↓reduceIte,List.reduceReplicate,Nat.reduceAdd,Nat.reduceSub,Nat.reduceMul,Nat.reduceLT,Nat.reduceLeDiff,Nat.reduceBEq,Nat.reduceEqDiff]
 refine loop_constH [] (HImp.nil _ _) [(10,13),(20,55)] (fun q:Nat × Int × Nat=>[(10,I q.2.1),(11,I q.2.2),(20,I q.1)])
  (fun q H1=>H1 = [] ∧ q.1 ≤ tabs.length ∧ ((q.2.1 = nvr ∧ ∀ i,i < q.1 → rd (g.t + i) = true → ∀ B,¬ g.R i (g.ts + 1) g.k B) ∨ (q.2.1 ≠ nvr ∧ q.2.2 < q.1 ∧ rd (g.t + q.2.2) = true ∧ g.R q.2.2 (g.ts + 1) g.k q.2.1 ∧ ∀ i,i < q.1 → rd (g.t + i) = true → ∀ B,g.R i (g.ts + 1) g.k B → q.2.1 ≤ B ∧ (B = q.2.1 → q.2.2 ≤ i)))) (fun q=>tabs.length - q.1) (0,nvr,0) ?_ ⟨rfl,Nat.zero_le _,.inl ⟨rfl,fun i h=>by omega⟩⟩ ?_
 ·simp (config := { maxSteps := 4000000 }) only [↓sxw,sxw,tf148,sxu,sxl,sxm,Int.reduceBEq,Int.reduceBNe,Int.reduceLT,Int.reduceLE,Int.reduceEq,Int.reduceGT,Int.reduceGE,Int.reduceToNat,↓reduceIte,List.reduceReplicate,Nat.reduceAdd,Nat.reduceSub,Nat.reduceMul,Nat.reduceLT,Nat.reduceLeDiff,Nat.reduceBEq,Nat.reduceEqDiff]
  simp [nvr]
 rintro ⟨i,best,last⟩ H1 g1 hinv
 simp only [] at hinv
 obtain ⟨rfl,hi,hinv⟩:=hinv
 by_cases hin:i = tabs.length
 case neg=>
  have e7:((i:Int) < (nL:Int)) = True:=eq_true (by omega)
  have e8:wr (i + 1) = ((i + 1:Nat):Int):=(wrap_id (by omega)).trans (by omega)
  have e9:wr ((g.t:Int) + i) = ((g.t + i:Nat):Int):=(wrap_id (by omega)).trans (by omega)
  have hRl:=List.getElem?_eq_getElem (show i < tabs.length by omega)
  obtain ⟨R,hR⟩:∃ R,tabs[i]'(by omega) = R:=⟨_,rfl⟩
  rw [hR] at hRl
  have hTi:=hTb.1 i R hRl
  obtain ⟨q1,hq1,vs,hvl,hvs,hvr⟩:=hqs i R hRl
  obtain ⟨q2,hq2,hrow⟩:=hvr (g.ts + 1) (by omega)
  obtain ⟨qa,qn,qc⟩:=q1
  obtain ⟨pa,pn,pc⟩:=q2
  simp only [] at hvs hrow
  have hvsl:=hvs.le slq_len (by omega)
  have hrwl:=hrow.le frc_len (by omega)
  have hu:=en_get hTi.shape (show g.ts + 1 < g.ts + 2 by omega) hk0
  have hbd:=hTi.bd hg (show g.ts + 1 < g.ts + 2 by omega) hk0
  have hlst:=hTi.least (g.ts + 1) g.k
  have hatt:=hTi.att (g.ts + 1) g.k (by omega) hk0
  have hlen:=hTi.shape.2 (g.ts + 1) (by omega)
  obtain ⟨e,he⟩:∃ e,en R (g.ts + 1) g.k = e:=⟨_,rfl⟩
  rw [he] at hu hbd hlst hatt
  obtain ⟨B,x2,x3⟩:=e
  simp only [] at hbd hlst hatt
  have hsame:∀ (hno:rd (g.t + i) = true → best ≤ B ∧ (B = nvr ∨ best ≠ nvr)),((best = nvr ∧ ∀ i',i' < i + 1 → rd (g.t + i') = true → ∀ B,¬ g.R i' (g.ts + 1) g.k B) ∨ (best ≠ nvr ∧ last < i + 1 ∧ rd (g.t + last) = true ∧ g.R last (g.ts + 1) g.k best ∧ ∀ i',i' < i + 1 → rd (g.t + i') = true → ∀ B,g.R i' (g.ts + 1) g.k B → best ≤ B ∧ (B = best → last ≤ i'))):=fun hno=>by
   rcases hinv with ⟨h1,h2⟩ | ⟨h1,h2,h3,h4,h5⟩
   ·refine .inl ⟨h1,fun i' hi' hr B' hR'=>?_⟩
    by_cases hie:i' = i
    ·subst hie
     obtain ⟨h6,h7⟩:=hno hr
     rcases h7 with h7 | h7
     ·have:=hlst B' hR'
      have:=g.R_bd hg hR'
      unfold nvr at h7
      omega
     ·exact h7 h1
    ·exact h2 i' (by omega) hr B' hR'
   ·refine .inr ⟨h1,by omega,h3,h4,fun i' hi' hr B' hR'=>?_⟩
    by_cases hie:i' = i
    ·subst hie
     have:=hlst B' hR'
     have:=(hno hr).1
     exact ⟨by omega,fun _=>by omega⟩
    ·exact h5 i' (by omega) hr B' hR'
  cases hrb:rd (g.t + i) with
  | false=>
   have hrtt:=hrt i (by omega)
   rw [hrb] at hrtt
   refine ⟨?_⟩
   simp (config := { maxSteps := 4000000 }) only [↓sxw,sxw,tf148,sxu,sxl,sxm,Int.reduceBEq,Int.reduceBNe,Int.reduceLT,Int.reduceLE,Int.reduceEq,Int.reduceGT,Int.reduceGE,Int.reduceToNat,↓reduceIte,List.reduceReplicate,Nat.reduceAdd,Nat.reduceSub,Nat.reduceMul,Nat.reduceLT,Nat.reduceLeDiff,Nat.reduceBEq,Nat.reduceEqDiff,e7]
   refine amid (at_1 (hrL _) slq_len hq1 rfl fun ad1=>?_)
   simp (config := { maxSteps := 4000000 }) only [↓sxw,sxw,tf148,sxu,sxl,sxm,Int.reduceBEq,Int.reduceBNe,Int.reduceLT,Int.reduceLE,Int.reduceEq,Int.reduceGT,Int.reduceGE,Int.reduceToNat,↓reduceIte,List.reduceReplicate,Nat.reduceAdd,Nat.reduceSub,Nat.reduceMul,Nat.reduceLT,Nat.reduceLeDiff,Nat.reduceBEq,Nat.reduceEqDiff,e0]
   refine at_1 (hvs.rd0 _) slq_len hq2 rfl fun ad2=>?_
   simp (config := { maxSteps := 4000000 }) only [↓sxw,sxw,tf148,sxu,sxl,sxm,Int.reduceBEq,Int.reduceBNe,Int.reduceLT,Int.reduceLE,Int.reduceEq,Int.reduceGT,Int.reduceGE,Int.reduceToNat,↓reduceIte,List.reduceReplicate,Nat.reduceAdd,Nat.reduceSub,Nat.reduceMul,Nat.reduceLT,Nat.reduceLeDiff,Nat.reduceBEq,Nat.reduceEqDiff]
   refine ld_olda (by simp [add_block]) m12 id ?_
   simp (config := { maxSteps := 4000000 }) only [↓sxw,sxw,tf148,sxu,sxl,sxm,Int.reduceBEq,Int.reduceBNe,Int.reduceLT,Int.reduceLE,Int.reduceEq,Int.reduceGT,Int.reduceGE,Int.reduceToNat,↓reduceIte,List.reduceReplicate,Nat.reduceAdd,Nat.reduceSub,Nat.reduceMul,Nat.reduceLT,Nat.reduceLeDiff,Nat.reduceBEq,Nat.reduceEqDiff]
   refine at_f (hrow.rd0 _) frc_len hu (o:=0) (x:=I B) rfl fun ad3=>?_
   simp (config := { maxSteps := 4000000 }) only [↓sxw,sxw,tf148,sxu,sxl,sxm,Int.reduceBEq,Int.reduceBNe,Int.reduceLT,Int.reduceLE,Int.reduceEq,Int.reduceGT,Int.reduceGE,Int.reduceToNat,↓reduceIte,List.reduceReplicate,Nat.reduceAdd,Nat.reduceSub,Nat.reduceMul,Nat.reduceLT,Nat.reduceLeDiff,Nat.reduceBEq,Nat.reduceEqDiff]
   refine ld_olda (by simp [add_block]) m13 id ?_
   simp (config := { maxSteps := 4000000 }) only [↓sxw,sxw,tf148,sxu,sxl,sxm,Int.reduceBEq,Int.reduceBNe,Int.reduceLT,Int.reduceLE,Int.reduceEq,Int.reduceGT,Int.reduceGE,Int.reduceToNat,↓reduceIte,List.reduceReplicate,Nat.reduceAdd,Nat.reduceSub,Nat.reduceMul,Nat.reduceLT,Nat.reduceLeDiff,Nat.reduceBEq,Nat.reduceEqDiff,e9]
   refine at_1 (hrr _) b1_len hrtt rfl fun ad4=>?_
   simp (config := { maxSteps := 4000000 }) only [↓sxw,sxw,tf148,sxu,sxl,sxm,Int.reduceBEq,Int.reduceBNe,Int.reduceLT,Int.reduceLE,Int.reduceEq,Int.reduceGT,Int.reduceGE,Int.reduceToNat,↓reduceIte,List.reduceReplicate,Nat.reduceAdd,Nat.reduceSub,Nat.reduceMul,Nat.reduceLT,Nat.reduceLeDiff,Nat.reduceBEq,Nat.reduceEqDiff,e8]
   exact ⟨(i + 1,best,last),_,⟨rfl,rfl,rfl⟩,HImp.refl _ _,⟨rfl,by simp only []; omega,hsame fun h=>by rw [hrb] at h; cases h⟩,by simp only []; omega⟩
  | true=>
   have hrtt:=hrt i (by omega)
   rw [hrb] at hrtt
   by_cases hlt:B < best
   ·have p1:(B < best) = True:=eq_true hlt
    have hne:B ≠ nvr:=by
     intro h
     rcases hinv with ⟨h1,_⟩ | ⟨_,_,_,h4,_⟩
     ·omega
     ·have:=g.R_bd hg h4
      unfold nvr at h
      omega
    refine ⟨?_⟩
    simp (config := { maxSteps := 4000000 }) only [↓sxw,sxw,tf148,sxu,sxl,sxm,Int.reduceBEq,Int.reduceBNe,Int.reduceLT,Int.reduceLE,Int.reduceEq,Int.reduceGT,Int.reduceGE,Int.reduceToNat,↓reduceIte,List.reduceReplicate,Nat.reduceAdd,Nat.reduceSub,Nat.reduceMul,Nat.reduceLT,Nat.reduceLeDiff,Nat.reduceBEq,Nat.reduceEqDiff,e7]
    refine amid (at_1 (hrL _) slq_len hq1 rfl fun ad1=>?_)
    simp (config := { maxSteps := 4000000 }) only [↓sxw,sxw,tf148,sxu,sxl,sxm,Int.reduceBEq,Int.reduceBNe,Int.reduceLT,Int.reduceLE,Int.reduceEq,Int.reduceGT,Int.reduceGE,Int.reduceToNat,↓reduceIte,List.reduceReplicate,Nat.reduceAdd,Nat.reduceSub,Nat.reduceMul,Nat.reduceLT,Nat.reduceLeDiff,Nat.reduceBEq,Nat.reduceEqDiff,e0]
    refine at_1 (hvs.rd0 _) slq_len hq2 rfl fun ad2=>?_
    simp (config := { maxSteps := 4000000 }) only [↓sxw,sxw,tf148,sxu,sxl,sxm,Int.reduceBEq,Int.reduceBNe,Int.reduceLT,Int.reduceLE,Int.reduceEq,Int.reduceGT,Int.reduceGE,Int.reduceToNat,↓reduceIte,List.reduceReplicate,Nat.reduceAdd,Nat.reduceSub,Nat.reduceMul,Nat.reduceLT,Nat.reduceLeDiff,Nat.reduceBEq,Nat.reduceEqDiff]
    refine ld_olda (by simp [add_block]) m12 id ?_
    simp (config := { maxSteps := 4000000 }) only [↓sxw,sxw,tf148,sxu,sxl,sxm,Int.reduceBEq,Int.reduceBNe,Int.reduceLT,Int.reduceLE,Int.reduceEq,Int.reduceGT,Int.reduceGE,Int.reduceToNat,↓reduceIte,List.reduceReplicate,Nat.reduceAdd,Nat.reduceSub,Nat.reduceMul,Nat.reduceLT,Nat.reduceLeDiff,Nat.reduceBEq,Nat.reduceEqDiff]
    refine at_f (hrow.rd0 _) frc_len hu (o:=0) (x:=I B) rfl fun ad3=>?_
    simp (config := { maxSteps := 4000000 }) only [↓sxw,sxw,tf148,sxu,sxl,sxm,Int.reduceBEq,Int.reduceBNe,Int.reduceLT,Int.reduceLE,Int.reduceEq,Int.reduceGT,Int.reduceGE,Int.reduceToNat,↓reduceIte,List.reduceReplicate,Nat.reduceAdd,Nat.reduceSub,Nat.reduceMul,Nat.reduceLT,Nat.reduceLeDiff,Nat.reduceBEq,Nat.reduceEqDiff]
    refine ld_olda (by simp [add_block]) m13 id ?_
    simp (config := { maxSteps := 4000000 }) only [↓sxw,sxw,tf148,sxu,sxl,sxm,Int.reduceBEq,Int.reduceBNe,Int.reduceLT,Int.reduceLE,Int.reduceEq,Int.reduceGT,Int.reduceGE,Int.reduceToNat,↓reduceIte,List.reduceReplicate,Nat.reduceAdd,Nat.reduceSub,Nat.reduceMul,Nat.reduceLT,Nat.reduceLeDiff,Nat.reduceBEq,Nat.reduceEqDiff,e9]
    refine at_1 (hrr _) b1_len hrtt rfl fun ad4=>?_
    simp (config := { maxSteps := 4000000 }) only [↓sxw,sxw,tf148,sxu,sxl,sxm,Int.reduceBEq,Int.reduceBNe,Int.reduceLT,Int.reduceLE,Int.reduceEq,Int.reduceGT,Int.reduceGE,Int.reduceToNat,↓reduceIte,List.reduceReplicate,Nat.reduceAdd,Nat.reduceSub,Nat.reduceMul,Nat.reduceLT,Nat.reduceLeDiff,Nat.reduceBEq,Nat.reduceEqDiff,p1,e8]
    exact ⟨(i + 1,B,i),_,⟨rfl,rfl,rfl⟩,HImp.refl _ _,⟨rfl,by simp only []; omega,.inr ⟨hne,by simp only []; omega,hrb,hatt hne,fun i' hi' hr B' hR'=>by
     simp only [] at hi' ⊢
     by_cases hie:i' = i
     ·subst hie
      exact ⟨hlst B' hR',fun _=>Nat.le_refl _⟩
     ·rcases hinv with ⟨h1,h2⟩ | ⟨h1,h2,h3,h4,h5⟩
      ·exact absurd hR' (h2 i' (by omega) hr B')
      ·have:=(h5 i' (by omega) hr B' hR').1
       exact ⟨by omega,fun h=>by omega⟩⟩⟩,by simp only []; omega⟩
   ·have p1:(B < best) = False:=eq_false hlt
    refine ⟨?_⟩
    simp (config := { maxSteps := 4000000 }) only [↓sxw,sxw,tf148,sxu,sxl,sxm,Int.reduceBEq,Int.reduceBNe,Int.reduceLT,Int.reduceLE,Int.reduceEq,Int.reduceGT,Int.reduceGE,Int.reduceToNat,↓reduceIte,List.reduceReplicate,Nat.reduceAdd,Nat.reduceSub,Nat.reduceMul,Nat.reduceLT,Nat.reduceLeDiff,Nat.reduceBEq,Nat.reduceEqDiff,e7]
    refine amid (at_1 (hrL _) slq_len hq1 rfl fun ad1=>?_)
    simp (config := { maxSteps := 4000000 }) only [↓sxw,sxw,tf148,sxu,sxl,sxm,Int.reduceBEq,Int.reduceBNe,Int.reduceLT,Int.reduceLE,Int.reduceEq,Int.reduceGT,Int.reduceGE,Int.reduceToNat,↓reduceIte,List.reduceReplicate,Nat.reduceAdd,Nat.reduceSub,Nat.reduceMul,Nat.reduceLT,Nat.reduceLeDiff,Nat.reduceBEq,Nat.reduceEqDiff,e0]
    refine at_1 (hvs.rd0 _) slq_len hq2 rfl fun ad2=>?_
    simp (config := { maxSteps := 4000000 }) only [↓sxw,sxw,tf148,sxu,sxl,sxm,Int.reduceBEq,Int.reduceBNe,Int.reduceLT,Int.reduceLE,Int.reduceEq,Int.reduceGT,Int.reduceGE,Int.reduceToNat,↓reduceIte,List.reduceReplicate,Nat.reduceAdd,Nat.reduceSub,Nat.reduceMul,Nat.reduceLT,Nat.reduceLeDiff,Nat.reduceBEq,Nat.reduceEqDiff]
    refine ld_olda (by simp [add_block]) m12 id ?_
    simp (config := { maxSteps := 4000000 }) only [↓sxw,sxw,tf148,sxu,sxl,sxm,Int.reduceBEq,Int.reduceBNe,Int.reduceLT,Int.reduceLE,Int.reduceEq,Int.reduceGT,Int.reduceGE,Int.reduceToNat,↓reduceIte,List.reduceReplicate,Nat.reduceAdd,Nat.reduceSub,Nat.reduceMul,Nat.reduceLT,Nat.reduceLeDiff,Nat.reduceBEq,Nat.reduceEqDiff]
    refine at_f (hrow.rd0 _) frc_len hu (o:=0) (x:=I B) rfl fun ad3=>?_
    simp (config := { maxSteps := 4000000 }) only [↓sxw,sxw,tf148,sxu,sxl,sxm,Int.reduceBEq,Int.reduceBNe,Int.reduceLT,Int.reduceLE,Int.reduceEq,Int.reduceGT,Int.reduceGE,Int.reduceToNat,↓reduceIte,List.reduceReplicate,Nat.reduceAdd,Nat.reduceSub,Nat.reduceMul,Nat.reduceLT,Nat.reduceLeDiff,Nat.reduceBEq,Nat.reduceEqDiff]
    refine ld_olda (by simp [add_block]) m13 id ?_
    simp (config := { maxSteps := 4000000 }) only [↓sxw,sxw,tf148,sxu,sxl,sxm,Int.reduceBEq,Int.reduceBNe,Int.reduceLT,Int.reduceLE,Int.reduceEq,Int.reduceGT,Int.reduceGE,Int.reduceToNat,↓reduceIte,List.reduceReplicate,Nat.reduceAdd,Nat.reduceSub,Nat.reduceMul,Nat.reduceLT,Nat.reduceLeDiff,Nat.reduceBEq,Nat.reduceEqDiff,e9]
    refine at_1 (hrr _) b1_len hrtt rfl fun ad4=>?_
    simp (config := { maxSteps := 4000000 }) only [↓sxw,sxw,tf148,sxu,sxl,sxm,Int.reduceBEq,Int.reduceBNe,Int.reduceLT,Int.reduceLE,Int.reduceEq,Int.reduceGT,Int.reduceGE,Int.reduceToNat,↓reduceIte,List.reduceReplicate,Nat.reduceAdd,Nat.reduceSub,Nat.reduceMul,Nat.reduceLT,Nat.reduceLeDiff,Nat.reduceBEq,Nat.reduceEqDiff,p1,e8]
    refine ⟨(i + 1,best,last),_,⟨rfl,rfl,rfl⟩,HImp.refl _ _,⟨rfl,by simp only []; omega,hsame fun _=>⟨by omega,?_⟩⟩,by simp only []; omega⟩
    rcases hinv with ⟨h1,_⟩ | ⟨h1,_⟩
    ·rcases hbd with h | h
     ·exact .inl h
     ·unfold nvr at h1
      omega
    ·exact .inr h1
 have e7:((i:Int) < (nL:Int)) = False:=eq_false (by omega)
 rcases hinv with ⟨hb,hnone⟩ | ⟨hb,hlt,hr,hR,hleast⟩
 ·have p1:(best = 1073741824) = True:=eq_true hb
  refine ⟨?_⟩
  simp (config := { maxSteps := 4000000 }) only [↓sxw,sxw,tf148,sxu,sxl,sxm,Int.reduceBEq,Int.reduceBNe,Int.reduceLT,Int.reduceLE,Int.reduceEq,Int.reduceGT,Int.reduceGE,Int.reduceToNat,↓reduceIte,List.reduceReplicate,Nat.reduceAdd,Nat.reduceSub,Nat.reduceMul,Nat.reduceLT,Nat.reduceLeDiff,Nat.reduceBEq,Nat.reduceEqDiff,e7,p1]
  refine .inl ⟨fun i' B' h1 h2 h3=>hnone i' (by omega) h2 B' h3,rfl⟩
 have p1:(best = 1073741824) = False:=eq_false hb
 have e8:wr ((last:Int) + 1) = ((last + 1:Nat):Int):=(wrap_id (by omega)).trans (by omega)
 have hbest:g.Best rd last best:=⟨by omega,hr,hR,fun i' B' h1 h2 h3=>hleast i' (by omega) h2 B' h3⟩
 refine ⟨?_⟩
 simp (config := { maxSteps := 4000000 }) only [↓sxw,sxw,tf148,sxu,sxl,sxm,Int.reduceBEq,Int.reduceBNe,Int.reduceLT,Int.reduceLE,Int.reduceEq,Int.reduceGT,Int.reduceGE,Int.reduceToNat,↓reduceIte,List.reduceReplicate,Nat.reduceAdd,Nat.reduceSub,Nat.reduceMul,Nat.reduceLT,Nat.reduceLeDiff,Nat.reduceBEq,Nat.reduceEqDiff,e7,p1,e8]
 refine ⟨by omega,by omega,by omega,fun b1'=>?_⟩
 refine ld_olda (by simp [add_block]) m12 id ?_
 simp (config := { maxSteps := 4000000 }) only [↓sxw,sxw,tf148,sxu,sxl,sxm,Int.reduceBEq,Int.reduceBNe,Int.reduceLT,Int.reduceLE,Int.reduceEq,Int.reduceGT,Int.reduceGE,Int.reduceToNat,↓reduceIte,List.reduceReplicate,Nat.reduceAdd,Nat.reduceSub,Nat.reduceMul,Nat.reduceLT,Nat.reduceLeDiff,Nat.reduceBEq,Nat.reduceEqDiff,e0]
 have hRl0:=List.getElem?_eq_getElem (show last < tabs.length by omega)
 obtain ⟨R0,hR0⟩:∃ R,tabs[last]'(by omega) = R:=⟨_,rfl⟩
 rw [hR0] at hRl0
 have hT0:=hTb.1 last R0 hRl0
 have h00:=(hT0.iff hg (by omega) (show g.ts + 1 < g.ts + 2 by omega) hk0).1 ⟨best,hR⟩
 have hb0:(en R0 (g.ts + 1) g.k).1 = best:=by
  have h1:=hT0.least _ _ _ hR
  have h2:=(hleast last hlt hr _ (hT0.att _ _ (by omega) hk0 h00)).1
  omega
 refine loop_constH [HO.row (.slice (some ⟨b1',0,none⟩) (last + 1) (last + 1)) 3 1 (ints (List.replicate (last + 1) 0))] (by rw [show ints (List.replicate (last + 1) 0) = zerosL (last + 1) [Value.int IntKind.i64 0] from (zeros_cat i1 0 _).symm]; exact HImp.refl _ _) [(9,9),(14,17),(72,95)] (fun q:Nat × Nat × Nat=>[(14,I q.2.1),(15,I q.2.2),(16,I q.1)])
  (fun q H1=>q.1 ≤ last ∧ ∃ X Q R,tabs[q.1]? = some R ∧ q.2.2 < g.ts + 2 ∧ q.2.1 < g.c.depth.length ∧ (en R q.2.2 q.2.1).1 ≠ nvr ∧ X.length = last + 1 ∧ X.drop (q.1 + 1) = nts Q ∧ Q.length = last - q.1 ∧ (∀ L0:List Nat,L0.length = q.1 → g.P (L0 ++ [q.2.1]) q.2.2 (en R q.2.2 q.2.1).1 → g.PE (L0 ++ [q.2.1] ++ Q) best) ∧ H1 = [HO.row (.slice (some ⟨b1',0,none⟩) (last + 1) (last + 1)) 3 1 (ints X)]) (fun q=>q.1) (last,g.k,g.ts + 1) ?_ ⟨Nat.le_refl _,_,[],R0,hRl0,by simp only []; omega,hk0,h00,List.length_replicate,by simp [nts],by simp,fun L0 _ h=>by simp only [] at h ⊢; rw [List.append_nil]; rw [hb0] at h; exact ⟨h,by simp⟩,rfl⟩ ?_
 ·simp (config := { maxSteps := 4000000 }) only [↓sxw,sxw,tf148,sxu,sxl,sxm,Int.reduceBEq,Int.reduceBNe,Int.reduceLT,Int.reduceLE,Int.reduceEq,Int.reduceGT,Int.reduceGE,Int.reduceToNat,↓reduceIte,List.reduceReplicate,Nat.reduceAdd,Nat.reduceSub,Nat.reduceMul,Nat.reduceLT,Nat.reduceLeDiff,Nat.reduceBEq,Nat.reduceEqDiff]
  try simp
 rintro ⟨u,y,s⟩ H2 g2 hinv2
 simp only [] at hinv2
 obtain ⟨hu,X,Q,R,hRl,hs,hy,hne,hXl,hXd,hQl,hP,rfl⟩:=hinv2
 have hTu:=hTb.1 u R hRl
 by_cases hu0:u = 0
 ·subst hu0
  have hatt:=hTu.att s y hs hy hne
  generalize (en R s y).1 = b0 at hatt hP
  cases hatt
  have hPL:=hP [] rfl Vg.P.zero
  have hXs:X.set 0 (g.k:Int) = nts (g.k :: Q):=by
   cases X with
   | nil=>simp at hXl
   | cons x X'=>
    rw [List.set_cons_zero]
    simp only [List.drop_succ_cons,List.drop_zero] at hXd
    rw [hXd]
    try rfl
  refine ⟨?_⟩
  simp (config := { maxSteps := 4000000 }) only [↓sxw,sxw,tf148,sxu,sxl,sxm,Int.reduceBEq,Int.reduceBNe,Int.reduceLT,Int.reduceLE,Int.reduceEq,Int.reduceGT,Int.reduceGE,Int.reduceToNat,↓reduceIte,List.reduceReplicate,Nat.reduceAdd,Nat.reduceSub,Nat.reduceMul,Nat.reduceLT,Nat.reduceLeDiff,Nat.reduceBEq,Nat.reduceEqDiff]
  refine ⟨by omega,by omega,_,rfl,?_⟩
  refine wr_at (k:=0) (A:=[]) (f:=i1) (u:=(g.k:Int)) rfl i1_len (by omega) (by omega) ?_
  rw [hXs]
  have e9:(((0:Nat):Int) = 0) = True:=eq_true rfl
  simp (config := { maxSteps := 4000000 }) only [↓sxw,sxw,tf148,sxu,sxl,sxm,Int.reduceBEq,Int.reduceBNe,Int.reduceLT,Int.reduceLE,Int.reduceEq,Int.reduceGT,Int.reduceGE,Int.reduceToNat,↓reduceIte,List.reduceReplicate,Nat.reduceAdd,Nat.reduceSub,Nat.reduceMul,Nat.reduceLT,Nat.reduceLeDiff,Nat.reduceBEq,Nat.reduceEqDiff,e9]
  exact .inr ⟨last,best,g.k :: Q,_,hbest,hPL,by rw [List.length_cons,hQl]; rfl,rfl,Got.row (by unfold nts; rw [List.length_map,List.length_cons,hQl]; rfl) List.mem_cons_self (fun h=>by cases h)⟩
 have e9:((u:Int) = 0) = False:=eq_false (by omega)
 have e10:wr ((u:Int) - 1) = ((u - 1:Nat):Int):=(wrap_id (by omega)).trans (by omega)
 have hRl1:=List.getElem?_eq_getElem (show u - 1 < tabs.length by omega)
 obtain ⟨R1,hR1⟩:∃ R,tabs[u - 1]'(by omega) = R:=⟨_,rfl⟩
 rw [hR1] at hRl1
 have hprd:=hTb.2 (u - 1) R1 R hRl1 (by rw [show u - 1 + 1 = u by omega]; exact hRl) s y hs hy hne
 obtain ⟨x0,s0,hx2,hx0,hs0,hne0,hny,hcan,hst,hbv⟩:=hprd
 obtain ⟨q1,hq1,vs,hvl,hvs,hvr⟩:=hqs u R hRl
 obtain ⟨q2,hq2,hrow⟩:=hvr s hs
 obtain ⟨qa,qn,qc⟩:=q1
 obtain ⟨pa,pn,pc⟩:=q2
 simp only [] at hvs hrow
 have hvsl:=hvs.le slq_len (by omega)
 have hrwl:=hrow.le frc_len (by omega)
 have hug:=en_get hTu.shape hs hy
 have hlen:=hTu.shape.2 s hs
 obtain ⟨e,he⟩:∃ e,en R s y = e:=⟨_,rfl⟩
 rw [he] at hug hx2 hbv hP
 obtain ⟨b0,ec,es⟩:=e
 simp only [Prod.mk.injEq] at hx2 hbv hP
 obtain ⟨rfl,rfl⟩:=hx2
 have hset:(X.set u (y:Int)).drop (u - 1 + 1) = nts (y :: Q):=by
  rw [show u - 1 + 1 = u by omega,List.drop_set,if_neg (by omega),Nat.sub_self,List.drop_eq_getElem_cons (show u < X.length by omega),List.set_cons_zero,hXd]
  try rfl
 refine ⟨?_⟩
 simp (config := { maxSteps := 4000000 }) only [↓sxw,sxw,tf148,sxu,sxl,sxm,Int.reduceBEq,Int.reduceBNe,Int.reduceLT,Int.reduceLE,Int.reduceEq,Int.reduceGT,Int.reduceGE,Int.reduceToNat,↓reduceIte,List.reduceReplicate,Nat.reduceAdd,Nat.reduceSub,Nat.reduceMul,Nat.reduceLT,Nat.reduceLeDiff,Nat.reduceBEq,Nat.reduceEqDiff]
 refine ⟨by omega,by omega,_,rfl,?_⟩
 refine wr_at (A:=[]) (f:=i1) (u:=(y:Int)) rfl i1_len (by omega) (by omega) ?_
 simp (config := { maxSteps := 4000000 }) only [↓sxw,sxw,tf148,sxu,sxl,sxm,Int.reduceBEq,Int.reduceBNe,Int.reduceLT,Int.reduceLE,Int.reduceEq,Int.reduceGT,Int.reduceGE,Int.reduceToNat,↓reduceIte,List.reduceReplicate,Nat.reduceAdd,Nat.reduceSub,Nat.reduceMul,Nat.reduceLT,Nat.reduceLeDiff,Nat.reduceBEq,Nat.reduceEqDiff,e9]
 refine at_1 (hrL _) slq_len hq1 rfl fun ad1=>?_
 simp (config := { maxSteps := 4000000 }) only [↓sxw,sxw,tf148,sxu,sxl,sxm,Int.reduceBEq,Int.reduceBNe,Int.reduceLT,Int.reduceLE,Int.reduceEq,Int.reduceGT,Int.reduceGE,Int.reduceToNat,↓reduceIte,List.reduceReplicate,Nat.reduceAdd,Nat.reduceSub,Nat.reduceMul,Nat.reduceLT,Nat.reduceLeDiff,Nat.reduceBEq,Nat.reduceEqDiff]
 refine at_1 (hvs.rd0 _) slq_len hq2 rfl fun ad2=>?_
 simp (config := { maxSteps := 4000000 }) only [↓sxw,sxw,tf148,sxu,sxl,sxm,Int.reduceBEq,Int.reduceBNe,Int.reduceLT,Int.reduceLE,Int.reduceEq,Int.reduceGT,Int.reduceGE,Int.reduceToNat,↓reduceIte,List.reduceReplicate,Nat.reduceAdd,Nat.reduceSub,Nat.reduceMul,Nat.reduceLT,Nat.reduceLeDiff,Nat.reduceBEq,Nat.reduceEqDiff]
 refine at_n (hrow.rd0 _) frc_len (by omega) hug fun ad3=>?_
 unfold frc
 simp (config := { maxSteps := 4000000 }) only [↓sxw,sxw,tf148,sxu,sxl,sxm,Int.reduceBEq,Int.reduceBNe,Int.reduceLT,Int.reduceLE,Int.reduceEq,Int.reduceGT,Int.reduceGE,Int.reduceToNat,↓reduceIte,List.reduceReplicate,Nat.reduceAdd,Nat.reduceSub,Nat.reduceMul,Nat.reduceLT,Nat.reduceLeDiff,Nat.reduceBEq,Nat.reduceEqDiff]
 intro b5
 refine wr_cell (A:=[]) rfl (by simp) ?_
 simp (config := { maxSteps := 4000000 }) only [↓sxw,sxw,tf148,sxu,sxl,sxm,Int.reduceBEq,Int.reduceBNe,Int.reduceLT,Int.reduceLE,Int.reduceEq,Int.reduceGT,Int.reduceGE,Int.reduceToNat,↓reduceIte,List.reduceReplicate,Nat.reduceAdd,Nat.reduceSub,Nat.reduceMul,Nat.reduceLT,Nat.reduceLeDiff,Nat.reduceBEq,Nat.reduceEqDiff,List.take,List.drop,List.length_cons,List.length_nil,List.nil_append]
 refine ld_cella (T:=234) (cs:=[I b0,I x0,I s0]) List.mem_cons_self rfl ?_
 simp (config := { maxSteps := 4000000 }) only [↓sxw,sxw,tf148,sxu,sxl,sxm,Int.reduceBEq,Int.reduceBNe,Int.reduceLT,Int.reduceLE,Int.reduceEq,Int.reduceGT,Int.reduceGE,Int.reduceToNat,↓reduceIte,List.reduceReplicate,Nat.reduceAdd,Nat.reduceSub,Nat.reduceMul,Nat.reduceLT,Nat.reduceLeDiff,Nat.reduceBEq,Nat.reduceEqDiff]
 refine ld_cella (T:=234) (cs:=[I b0,I x0,I s0]) List.mem_cons_self rfl ?_
 simp (config := { maxSteps := 4000000 }) only [↓sxw,sxw,tf148,sxu,sxl,sxm,Int.reduceBEq,Int.reduceBNe,Int.reduceLT,Int.reduceLE,Int.reduceEq,Int.reduceGT,Int.reduceGE,Int.reduceToNat,↓reduceIte,List.reduceReplicate,Nat.reduceAdd,Nat.reduceSub,Nat.reduceMul,Nat.reduceLT,Nat.reduceLeDiff,Nat.reduceBEq,Nat.reduceEqDiff,e10]
 refine ⟨(u - 1,x0,s0),_,⟨rfl,rfl,rfl⟩,HImp.tail _ _ _,⟨by simp only []; omega,X.set u (y:Int),y :: Q,R1,hRl1,hs0,hx0,hne0,by rw [List.length_set]; exact hXl,hset,by rw [List.length_cons,hQl]; simp only []; omega,fun L0 hl0 hp=>?_,rfl⟩,by simp only []; omega⟩
 simp only [] at hl0 hp ⊢
 have hp2:=Vg.P.step hp hny (by rw [hl0]; exact hcan)
 rw [← hst,← hbv] at hp2
 have:=hP (L0 ++ [x0]) (by rw [List.length_append,List.length_singleton,hl0]; omega) hp2
 rwa [List.append_assoc (L0 ++ [x0])] at this
end Go.Proofs.YtljpknnhimkkjaaGreatDoor

namespace Go.Proofs.YtljpknnhimkkjaaGreatDoor
open Go.RowKit Go.SX
set_option maxRecDepth 10000
set_option maxHeartbeats 0
set_option linter.unusedSimpArgs false
set_option linter.unusedVariables false
def noV:Value:=.agg #[.slice none 0 0,I 0]
def Vg.near (g:Vg):Int:=outV g.c g.b g.k g.t (g.c.tide.length - g.t) g.tc
def Vg.Why (g:Vg) (rdy:Nat → Bool) (fuel:Int) (why:Int):Prop:=
 (why = 1 ∧ rdy g.t = false) ∨ (rdy g.t = true ∧ ((why = 2 ∧ g.near < 0) ∨ (0 ≤ g.near ∧ ((why = 3 ∧ g.None rdy) ∨ (why = 4 ∧ ∃ m B,g.Best rdy m B ∧ B + g.b.reserve > fuel)))))
def DecP (g:Vg) (rdy:Nat → Bool) (fuel:Int) (q:Value) (N:List HO):Prop:=
 (∃ why,q = .tuple #[I why,noV] ∧ g.Why rdy fuel why) ∨ (rdy g.t = true ∧ 0 ≤ g.near ∧ ∃ m B L x,g.Best rdy m B ∧ g.PE L B ∧ L.length = m + 1 ∧ B + g.b.reserve ≤ fuel ∧ q = .tuple #[I 0,.agg #[x,I B]] ∧ Got x 3 1 i1 (nts L) N)
def pl102_3:Plan:=(ones [0,1,3,4,2,5,6,7] .fin)
def pl102_5:Plan:=(ones [0,1,2,3,4,5] (.pre 11 (ones [6,7,8,9,10,11,12,13] .fin)))
def pl102:List (Nat × Plan):=[(3,pl102_3),(5,pl102_5)]
theorem pl102_lk:(lkO 3 pl102 = some pl102_3) ∧ (lkO 5 pl102 = some pl102_5) ∧ (lkO 8 pl102 = none) ∧ (lkO 10 pl102 = none):=⟨rfl,rfl,rfl,rfl⟩
theorem decide5_fn (w:World) (bs:Nat) (g:Vg) (hg:g.Ok) (r:Rmp) (hkr:r.cell = g.k) (hst:StaOk w bs g.c g.b r.cell (rdyL g.c g.b r) (canL g.c g.b) (nearL g.c)) (fuel:Int) (hf:0 ≤ fuel ∧ fuel ≤ 5000):
  SX.Fn Tryz.prog 102 [.pointer (some ⟨bs,0,none⟩),I g.t,I fuel,.agg #[I g.tc,I g.ts]] w (fun _=>False) (DecP g (rdyB g.c g.b r) fuel):=by
 have hst0:=hst
 obtain ⟨sD,sT,sS,vr,vc,vn,hcs,hch,hrd,hcn,hnr⟩:=hst
 obtain ⟨ar,nr,cr,rfl⟩:=hrd.shape
 have hnr':=hrd.le b1_len (by omega)
 have hrl:(rdyL g.c g.b r).length = g.c.tide.length:=by unfold rdyL; rw [List.length_map,List.length_range]
 rw [hrl] at hnr'
 subst hnr'
 have hrr:=hrd.rd0
 have m13:=hcs 13 _ rfl
 have m9:=hcs 9 _ rfl
 have ht0:=hg.t
 have htc:=hg.tc
 have hkn:r.cell.toNat = g.k:=by omega
 have hrt:(rdyL g.c g.b r)[g.t]? = some (rdyB g.c g.b r g.t):=by unfold rdyL; rw [List.getElem?_map,List.getElem?_range ht0]; rfl
 have hrch:rdyB g.c g.b r g.t = true → (reachL g.c g.b r g.t)[g.tc]? = some g.near:=fun h=>by
  unfold reachL Vg.near
  rw [if_pos h,List.getElem?_map,List.getElem?_range htc,hkn]
  try rfl
 have hrel:(reachL g.c g.b r g.t).length = g.c.depth.length:=by
  unfold reachL
  split
  ·rw [List.length_map,List.length_range]
  ·rw [List.length_replicate]
 have dn:∀ (g:Nat) (xs:List Value),det0 g xs = none:=fun _ _=>rfl
 have hcb:=(clsB_iff g.b).1 hg.cls
 have h60:=hg.ok.2.2.2.1.2
 refine walk [10] pl102 (det0_ok _ _) Tryz.func102 rfl Tryz.ntmps102 res102 (by kernel_rfl) no_facts ?_
 simp (config := { maxSteps := 4000000 }) only [↓sxw,sxw,tf102,sxu,sxl,sxm,Int.reduceBEq,Int.reduceBNe,Int.reduceLT,Int.reduceLE,Int.reduceEq,Int.reduceGT,Int.reduceGE,Int.reduceToNat,↓reduceIte,List.reduceReplicate,Nat.reduceAdd,Nat.reduceSub,Nat.reduceMul,Nat.reduceLT,Nat.reduceLeDiff,Nat.reduceBEq,Nat.reduceEqDiff,dn]
 refine ld_olda (by simp [add_block]) m13 id ?_
 simp (config := { maxSteps := 4000000 }) only [↓sxw,sxw,tf102,sxu,sxl,sxm,Int.reduceBEq,Int.reduceBNe,Int.reduceLT,Int.reduceLE,Int.reduceEq,Int.reduceGT,Int.reduceGE,Int.reduceToNat,↓reduceIte,List.reduceReplicate,Nat.reduceAdd,Nat.reduceSub,Nat.reduceMul,Nat.reduceLT,Nat.reduceLeDiff,Nat.reduceBEq,Nat.reduceEqDiff]
 refine at_1 (hrr _) b1_len hrt rfl fun ad1=>?_
 cases hrb:rdyB g.c g.b r g.t with
 | false=>
  simp (config := { maxSteps := 4000000 }) only [↓sxw,sxw,tf102,sxu,sxl,sxm,Int.reduceBEq,Int.reduceBNe,Int.reduceLT,Int.reduceLE,Int.reduceEq,Int.reduceGT,Int.reduceGE,Int.reduceToNat,↓reduceIte,List.reduceReplicate,Nat.reduceAdd,Nat.reduceSub,Nat.reduceMul,Nat.reduceLT,Nat.reduceLeDiff,Nat.reduceBEq,Nat.reduceEqDiff]
  exact .inl ⟨1,rfl,.inl ⟨rfl,hrb⟩⟩
 | true=>
 have hrc:=hrch hrb
 simp (config := { maxSteps := 4000000 }) only [↓sxw,sxw,tf102,sxu,sxl,sxm,Int.reduceBEq,Int.reduceBNe,Int.reduceLT,Int.reduceLE,Int.reduceEq,Int.reduceGT,Int.reduceGE,Int.reduceToNat,↓reduceIte,List.reduceReplicate,Nat.reduceAdd,Nat.reduceSub,Nat.reduceMul,Nat.reduceLT,Nat.reduceLeDiff,Nat.reduceBEq,Nat.reduceEqDiff,dn,pl102_lk,pl102_3]
 refine CallOb.pureH (fun w' hp=>reach5_fn w' bs g.c hg.ok g.b r g.k hg.k hkr (hst0.hp hp) g.t ht0) ?_
 rintro q N hgot
 have hsh:=hgot.shape
 obtain ⟨aR,cR,rfl⟩:=hsh
 rw [hrel] at hgot ⊢
 obtain ⟨nr,hnr⟩:∃ nr,g.near = nr:=⟨_,rfl⟩
 rw [hnr] at hrc
 by_cases hn0:nr < 0
 ·have p1:(nr < 0) = True:=eq_true hn0
  refine ⟨?_⟩
  simp (config := { maxSteps := 4000000 }) only [↓sxw,sxw,tf102,sxu,sxl,sxm,Int.reduceBEq,Int.reduceBNe,Int.reduceLT,Int.reduceLE,Int.reduceEq,Int.reduceGT,Int.reduceGE,Int.reduceToNat,↓reduceIte,List.reduceReplicate,Nat.reduceAdd,Nat.reduceSub,Nat.reduceMul,Nat.reduceLT,Nat.reduceLeDiff,Nat.reduceBEq,Nat.reduceEqDiff,pl102_lk,pl102_3]
  refine at_1 (hgot.rdv i1_len (by simp +contextual)) i1_len hrc rfl fun ad2=>?_
  simp (config := { maxSteps := 4000000 }) only [↓sxw,sxw,tf102,sxu,sxl,sxm,Int.reduceBEq,Int.reduceBNe,Int.reduceLT,Int.reduceLE,Int.reduceEq,Int.reduceGT,Int.reduceGE,Int.reduceToNat,↓reduceIte,List.reduceReplicate,Nat.reduceAdd,Nat.reduceSub,Nat.reduceMul,Nat.reduceLT,Nat.reduceLeDiff,Nat.reduceBEq,Nat.reduceEqDiff,p1]
  exact .inl ⟨2,rfl,.inr ⟨hrb,.inl ⟨rfl,by rw [hnr]; exact hn0⟩⟩⟩
 have p1:(nr < 0) = False:=eq_false hn0
 refine ⟨?_⟩
 simp (config := { maxSteps := 4000000 }) only [↓sxw,sxw,tf102,sxu,sxl,sxm,Int.reduceBEq,Int.reduceBNe,Int.reduceLT,Int.reduceLE,Int.reduceEq,Int.reduceGT,Int.reduceGE,Int.reduceToNat,↓reduceIte,List.reduceReplicate,Nat.reduceAdd,Nat.reduceSub,Nat.reduceMul,Nat.reduceLT,Nat.reduceLeDiff,Nat.reduceBEq,Nat.reduceEqDiff,pl102_lk,pl102_3]
 refine at_1 (hgot.rdv i1_len (by simp +contextual)) i1_len hrc rfl fun ad2=>?_
 simp (config := { maxSteps := 4000000 }) only [↓sxw,sxw,tf102,sxu,sxl,sxm,Int.reduceBEq,Int.reduceBNe,Int.reduceLT,Int.reduceLE,Int.reduceEq,Int.reduceGT,Int.reduceGE,Int.reduceToNat,↓reduceIte,List.reduceReplicate,Nat.reduceAdd,Nat.reduceSub,Nat.reduceMul,Nat.reduceLT,Nat.reduceLeDiff,Nat.reduceBEq,Nat.reduceEqDiff,p1,dn,pl102_lk,pl102_5]
 refine CallOb.pureH (fun w' hp=>sail5_fn w' bs g hg r hkr (hst0.hp hp)) ?_
 rintro q2 N2 ⟨ad,cp,qs,tabs,rfl,hv,hLM,hTb,htl⟩
 refine ⟨?_⟩
 simp (config := { maxSteps := 4000000 }) only [↓sxw,sxw,tf102,sxu,sxl,sxm,Int.reduceBEq,Int.reduceBNe,Int.reduceLT,Int.reduceLE,Int.reduceEq,Int.reduceGT,Int.reduceGE,Int.reduceToNat,↓reduceIte,List.reduceReplicate,Nat.reduceAdd,Nat.reduceSub,Nat.reduceMul,Nat.reduceLT,Nat.reduceLeDiff,Nat.reduceBEq,Nat.reduceEqDiff,dn,pl102_lk,pl102_5]
 refine CallOb.pureH (fun w' hp=>home5_fn w' bs g hg r hkr (hst0.hp hp) _ tabs (hLM.w hTb hv (by simp +contextual) hp) hTb htl) ?_
 rintro q3 N3 (⟨hno,rfl⟩ | ⟨m,B,L,x,hbest,hP,hll,rfl,hgx⟩)
 ·refine ⟨?_⟩
  simp (config := { maxSteps := 4000000 }) only [↓sxw,sxw,tf102,sxu,sxl,sxm,Int.reduceBEq,Int.reduceBNe,Int.reduceLT,Int.reduceLE,Int.reduceEq,Int.reduceGT,Int.reduceGE,Int.reduceToNat,↓reduceIte,List.reduceReplicate,Nat.reduceAdd,Nat.reduceSub,Nat.reduceMul,Nat.reduceLT,Nat.reduceLeDiff,Nat.reduceBEq,Nat.reduceEqDiff,pl102_lk,pl102_5]
  intro b5
  refine wr_cell (A:=[]) rfl (by simp) ?_
  simp (config := { maxSteps := 4000000 }) only [↓sxw,sxw,tf102,sxu,sxl,sxm,Int.reduceBEq,Int.reduceBNe,Int.reduceLT,Int.reduceLE,Int.reduceEq,Int.reduceGT,Int.reduceGE,Int.reduceToNat,↓reduceIte,List.reduceReplicate,Nat.reduceAdd,Nat.reduceSub,Nat.reduceMul,Nat.reduceLT,Nat.reduceLeDiff,Nat.reduceBEq,Nat.reduceEqDiff,List.take,List.drop,List.length_cons,List.length_nil,List.nil_append,pl102_lk,pl102_5]
  exact .inl ⟨3,rfl,.inr ⟨hrb,.inr ⟨by omega,.inl ⟨rfl,hno⟩⟩⟩⟩
 have hBb:=g.R_bd hg hbest.r
 have hm60:=hbest.lt
 have e1:wr (B + g.b.reserve) = B + g.b.reserve:=wrap_id (by omega)
 obtain ⟨ax,cx,rfl⟩:=hgx.shape
 by_cases hfu:B + g.b.reserve > fuel
 ·have p2:(B + g.b.reserve > fuel) = True:=eq_true hfu
  refine ⟨?_⟩
  simp (config := { maxSteps := 4000000 }) only [↓sxw,sxw,tf102,sxu,sxl,sxm,Int.reduceBEq,Int.reduceBNe,Int.reduceLT,Int.reduceLE,Int.reduceEq,Int.reduceGT,Int.reduceGE,Int.reduceToNat,↓reduceIte,List.reduceReplicate,Nat.reduceAdd,Nat.reduceSub,Nat.reduceMul,Nat.reduceLT,Nat.reduceLeDiff,Nat.reduceBEq,Nat.reduceEqDiff,pl102_lk,pl102_5]
  intro b5
  refine wr_cell (A:=[]) rfl (by simp) ?_
  simp (config := { maxSteps := 4000000 }) only [↓sxw,sxw,tf102,sxu,sxl,sxm,Int.reduceBEq,Int.reduceBNe,Int.reduceLT,Int.reduceLE,Int.reduceEq,Int.reduceGT,Int.reduceGE,Int.reduceToNat,↓reduceIte,List.reduceReplicate,Nat.reduceAdd,Nat.reduceSub,Nat.reduceMul,Nat.reduceLT,Nat.reduceLeDiff,Nat.reduceBEq,Nat.reduceEqDiff,List.take,List.drop,List.length_cons,List.length_nil,List.nil_append,pl102_lk,pl102_5]
  refine ld_cella (T:=98) (cs:=[.slice ax (nts L).length cx,I B]) List.mem_cons_self rfl ?_
  simp (config := { maxSteps := 4000000 }) only [↓sxw,sxw,tf102,sxu,sxl,sxm,Int.reduceBEq,Int.reduceBNe,Int.reduceLT,Int.reduceLE,Int.reduceEq,Int.reduceGT,Int.reduceGE,Int.reduceToNat,↓reduceIte,List.reduceReplicate,Nat.reduceAdd,Nat.reduceSub,Nat.reduceMul,Nat.reduceLT,Nat.reduceLeDiff,Nat.reduceBEq,Nat.reduceEqDiff,pl102_lk,pl102_5]
  refine ld_olda (by simp [add_block]) m9 id ?_
  simp (config := { maxSteps := 4000000 }) only [↓sxw,sxw,tf102,sxu,sxl,sxm,Int.reduceBEq,Int.reduceBNe,Int.reduceLT,Int.reduceLE,Int.reduceEq,Int.reduceGT,Int.reduceGE,Int.reduceToNat,↓reduceIte,List.reduceReplicate,Nat.reduceAdd,Nat.reduceSub,Nat.reduceMul,Nat.reduceLT,Nat.reduceLeDiff,Nat.reduceBEq,Nat.reduceEqDiff,e1,p2,pl102_lk,pl102_5]
  exact .inl ⟨4,rfl,.inr ⟨hrb,.inr ⟨by omega,.inr ⟨rfl,m,B,hbest,hfu⟩⟩⟩⟩
 ·have p2:(B + g.b.reserve > fuel) = False:=eq_false hfu
  refine ⟨?_⟩
  simp (config := { maxSteps := 4000000 }) only [↓sxw,sxw,tf102,sxu,sxl,sxm,Int.reduceBEq,Int.reduceBNe,Int.reduceLT,Int.reduceLE,Int.reduceEq,Int.reduceGT,Int.reduceGE,Int.reduceToNat,↓reduceIte,List.reduceReplicate,Nat.reduceAdd,Nat.reduceSub,Nat.reduceMul,Nat.reduceLT,Nat.reduceLeDiff,Nat.reduceBEq,Nat.reduceEqDiff,pl102_lk,pl102_5]
  intro b5
  refine wr_cell (A:=[]) rfl (by simp) ?_
  simp (config := { maxSteps := 4000000 }) only [↓sxw,sxw,tf102,sxu,sxl,sxm,Int.reduceBEq,Int.reduceBNe,Int.reduceLT,Int.reduceLE,Int.reduceEq,Int.reduceGT,Int.reduceGE,Int.reduceToNat,↓reduceIte,List.reduceReplicate,Nat.reduceAdd,Nat.reduceSub,Nat.reduceMul,Nat.reduceLT,Nat.reduceLeDiff,Nat.reduceBEq,Nat.reduceEqDiff,List.take,List.drop,List.length_cons,List.length_nil,List.nil_append,pl102_lk,pl102_5]
  refine ld_cella (T:=98) (cs:=[.slice ax (nts L).length cx,I B]) List.mem_cons_self rfl ?_
  simp (config := { maxSteps := 4000000 }) only [↓sxw,sxw,tf102,sxu,sxl,sxm,Int.reduceBEq,Int.reduceBNe,Int.reduceLT,Int.reduceLE,Int.reduceEq,Int.reduceGT,Int.reduceGE,Int.reduceToNat,↓reduceIte,List.reduceReplicate,Nat.reduceAdd,Nat.reduceSub,Nat.reduceMul,Nat.reduceLT,Nat.reduceLeDiff,Nat.reduceBEq,Nat.reduceEqDiff,pl102_lk,pl102_5]
  refine ld_olda (by simp [add_block]) m9 id ?_
  simp (config := { maxSteps := 4000000 }) only [↓sxw,sxw,tf102,sxu,sxl,sxm,Int.reduceBEq,Int.reduceBNe,Int.reduceLT,Int.reduceLE,Int.reduceEq,Int.reduceGT,Int.reduceGE,Int.reduceToNat,↓reduceIte,List.reduceReplicate,Nat.reduceAdd,Nat.reduceSub,Nat.reduceMul,Nat.reduceLT,Nat.reduceLeDiff,Nat.reduceBEq,Nat.reduceEqDiff,e1,p2,pl102_lk,pl102_5]
  refine ld_cells (T:=98) (cs:=[.slice ax (nts L).length cx,I B]) [.slice ax (nts L).length cx,I B] List.mem_cons_self rfl rfl ?_
  simp (config := { maxSteps := 4000000 }) only [↓sxw,sxw,tf102,sxu,sxl,sxm,Int.reduceBEq,Int.reduceBNe,Int.reduceLT,Int.reduceLE,Int.reduceEq,Int.reduceGT,Int.reduceGE,Int.reduceToNat,↓reduceIte,List.reduceReplicate,Nat.reduceAdd,Nat.reduceSub,Nat.reduceMul,Nat.reduceLT,Nat.reduceLeDiff,Nat.reduceBEq,Nat.reduceEqDiff,pl102_lk,pl102_5]
  exact .inr ⟨hrb,by omega,m,B,L,_,hbest,hP,hll,by omega,rfl,hgx.mono (by simp +contextual)⟩
noncomputable def goE (c:Cht) (b:Cls) (r:Rmp) (t f tc ts:Int):Int:=if staE c b r t f = 0 then (if inB tc 0 ((c.depth.length:Int) - 1) && inB ts 0 8 then 0 else 51) else staE c b r t f
theorem goE_zero {c:Cht} {b:Cls} {r:Rmp} {t f tc ts:Int} (h:goE c b r t f tc ts = 0):staE c b r t f = 0 ∧ (0 ≤ tc ∧ tc ≤ (c.depth.length:Int) - 1) ∧ 0 ≤ ts ∧ ts ≤ 8:=by
 unfold goE at h
 split at h
 ·rename_i h1
  split at h
  ·rename_i h2
   rw [Bool.and_eq_true,inB_iff,inB_iff] at h2
   exact ⟨h1,h2⟩
  ·cases h
 ·rename_i h1
  exact absurd h h1
def Vg.of (c:Cht) (b:Cls) (r:Rmp) (t tc ts:Int):Vg:=⟨c,b,r.cell.toNat,t.toNat,tc.toNat,ts.toNat⟩
theorem ramp_cell {c:Cht} {r:Rmp} (h:rampB c r = true):0 ≤ r.cell ∧ r.cell ≤ (c.depth.length:Int) - 1:=by
 unfold rampB notCell at h
 simp only [Bool.and_eq_true,Bool.not_not,inB_iff] at h
 exact h.1.1.1.1
theorem Vg.of_ok {c:Cht} {b:Cls} {r:Rmp} {t f tc ts:Int} (h:goE c b r t f tc ts = 0):(Vg.of c b r t tc ts).Ok:=by
 obtain ⟨h1,h2,h3⟩:=goE_zero h
 obtain ⟨k1,k2,k3,k4,k5⟩:=staE_zero h1
 have:=ramp_cell k3
 exact ⟨k1,k2,by show r.cell.toNat < c.depth.length; omega,by show t.toNat < c.tide.length; omega,by show tc.toNat < c.depth.length; omega,by show ts.toNat ≤ 8; omega⟩
def GoP (c:Cht) (b:Cls) (r:Rmp) (t f tc ts:Int) (q:Value) (N:List HO):Prop:=
 (goE c b r t f tc ts ≠ 0 ∧ q = .tuple #[I 0,noV,I (goE c b r t f tc ts)]) ∨
 (goE c b r t f tc ts = 0 ∧ ((∃ why,q = .tuple #[I why,noV,I 0] ∧ (Vg.of c b r t tc ts).Why (rdyB c b r) f why) ∨
  (rdyB c b r t.toNat = true ∧ 0 ≤ (Vg.of c b r t tc ts).near ∧ ∃ m B L x,(Vg.of c b r t tc ts).Best (rdyB c b r) m B ∧ (Vg.of c b r t tc ts).PE L B ∧ L.length = m + 1 ∧ B + b.reserve ≤ f ∧ q = .tuple #[I 0,.agg #[x,I B],I 0] ∧ Got x 3 1 i1 (nts L) N)))
end Go.Proofs.YtljpknnhimkkjaaGreatDoor

namespace Go.Proofs.YtljpknnhimkkjaaGreatDoor
open Go.RowKit Go.SX
set_option maxRecDepth 10000
set_option maxHeartbeats 0
set_option linter.unusedSimpArgs false
set_option linter.unusedVariables false
theorem go5_fn (w:World) (hw:Ways w) (v:Value) (c:Cht) (hc:ChOk w v c) (hsm:c.small) (b:Cls) (r:Rmp) (t f tc ts:Int):
  SX.Fn Tryz.prog 48 [v,clv b,rmv r,I t,I f,.agg #[I tc,I ts]] w (fun _=>False) (GoP c b r t f tc ts):=by
 have hc0:=hc
 have hop:=fun (H:List HO) w' (hp:Hp ⟨w,fun _=>False⟩ H w')=>open5_fn w' (hw.hp hp) v c (hc0.hp hp) hsm b r t f
 obtain ⟨sD,sT,sS,rfl,hsD,hsT,hsS⟩:=hc
 obtain ⟨aD,nD,cD,rfl⟩:=hsD.shape
 have hnD:=hsD.le i1_len (by omega)
 subst hnD
 have hdl:c.depth.length ≤ 200:=hsm.1
 have e0:wr ((c.depth.length:Int) - 1) = (c.depth.length:Int) - 1:=wrap_id (by omega)
 have dn:(∀ xs,detQ 74 xs = none) ∧ (∀ xs,detQ 102 xs = none):=⟨fun _=>rfl,fun _=>rfl⟩
 have hwd:∀ n l h:Int,detQ 101 [I n,I l,I h] = some (.bool (inB n l h)):=fun _ _ _=>rfl
 unfold GoP noV
 unfold clv rmv
 unfold clv rmv at hop
 refine walk [] [] (detQ_ok _ _) Tryz.func48 rfl Tryz.ntmps48 res48 (by kernel_rfl) no_facts ?_
 simp (config := { maxSteps := 4000000 }) only [↓sxw,sxw,tf48,sxu,sxl,sxm,Int.reduceBEq,Int.reduceBNe,Int.reduceLT,Int.reduceLE,Int.reduceEq,Int.reduceGT,Int.reduceGE,Int.reduceToNat,↓reduceIte,List.reduceReplicate,Nat.reduceAdd,Nat.reduceSub,Nat.reduceMul,Nat.reduceLT,Nat.reduceLeDiff,Nat.reduceBEq,Nat.reduceEqDiff,dn]
 refine CallOb.pureH (fun w' hp=>hop _ w' hp) ?_
 rintro q N hO
 by_cases hE:staE c b r t f = 0
 case neg=>
  have hg:goE c b r t f tc ts = staE c b r t f:=by unfold goE; rw [if_neg hE]
  rw [hg]
  rcases hO with ⟨_,rfl⟩ | ⟨h,_⟩
  ·have e1:(staE c b r t f = 0) = False:=eq_false hE
   refine ⟨?_⟩
   simp (config := { maxSteps := 4000000 }) only [↓sxw,sxw,tf48,sxu,sxl,sxm,Int.reduceBEq,Int.reduceBNe,Int.reduceLT,Int.reduceLE,Int.reduceEq,Int.reduceGT,Int.reduceGE,Int.reduceToNat,↓reduceIte,List.reduceReplicate,Nat.reduceAdd,Nat.reduceSub,Nat.reduceMul,Nat.reduceLT,Nat.reduceLeDiff,Nat.reduceBEq,Nat.reduceEqDiff,e1]
   exact .inl trivial
  ·exact absurd h hE
 rcases hO with ⟨h,_⟩ | ⟨_,bs,rfl,hN⟩
 ·exact absurd hE h
 cases h1:inB tc 0 ((c.depth.length:Int) - 1) with
 | false=>
  have hg:goE c b r t f tc ts = 51:=by unfold goE; rw [if_pos hE,h1]; rfl
  rw [hg]
  refine ⟨?_⟩
  simp (config := { maxSteps := 4000000 }) only [↓sxw,sxw,tf48,sxu,sxl,sxm,Int.reduceBEq,Int.reduceBNe,Int.reduceLT,Int.reduceLE,Int.reduceEq,Int.reduceGT,Int.reduceGE,Int.reduceToNat,↓reduceIte,List.reduceReplicate,Nat.reduceAdd,Nat.reduceSub,Nat.reduceMul,Nat.reduceLT,Nat.reduceLeDiff,Nat.reduceBEq,Nat.reduceEqDiff,hwd,e0,h1]
  exact .inl trivial
 | true=>
 cases h2:inB ts 0 8 with
 | false=>
  have hg:goE c b r t f tc ts = 51:=by unfold goE; rw [if_pos hE,h1,h2]; rfl
  rw [hg]
  refine ⟨?_⟩
  simp (config := { maxSteps := 4000000 }) only [↓sxw,sxw,tf48,sxu,sxl,sxm,Int.reduceBEq,Int.reduceBNe,Int.reduceLT,Int.reduceLE,Int.reduceEq,Int.reduceGT,Int.reduceGE,Int.reduceToNat,↓reduceIte,List.reduceReplicate,Nat.reduceAdd,Nat.reduceSub,Nat.reduceMul,Nat.reduceLT,Nat.reduceLeDiff,Nat.reduceBEq,Nat.reduceEqDiff,hwd,e0,h1,h2]
  exact .inl trivial
 | true=>
 have hg:goE c b r t f tc ts = 0:=by unfold goE; rw [if_pos hE,h1,h2]; rfl
 have hok:=Vg.of_ok hg
 have hz:=staE_zero hE
 have hrc:=ramp_cell hz.2.2.1
 have hk4:=hz.2.2.2.1
 have hf5:=hz.2.2.2.2
 rw [inB_iff] at h1 h2
 have h1':=(inB_iff _ _ _).2 h1
 have h2':=(inB_iff _ _ _).2 h2
 rw [hg]
 obtain ⟨T,rfl⟩:∃ T:Nat,t = T:=⟨t.toNat,by omega⟩
 obtain ⟨TC,rfl⟩:∃ T:Nat,tc = T:=⟨tc.toNat,by omega⟩
 obtain ⟨TS,rfl⟩:∃ T:Nat,ts = T:=⟨ts.toNat,by omega⟩
 have hdec:=fun (H:List HO) w' (hp:Hp ⟨w,fun _=>False⟩ H w') (hm:∀ h ∈ N,h ∈ H)=>decide5_fn w' bs (Vg.of c b r T TC TS) hok r (by show r.cell = (r.cell.toNat:Int); omega) (hN.ok hm hc0 hp) f hf5
 refine ⟨?_⟩
 simp (config := { maxSteps := 4000000 }) only [↓sxw,sxw,tf48,sxu,sxl,sxm,Int.reduceBEq,Int.reduceBNe,Int.reduceLT,Int.reduceLE,Int.reduceEq,Int.reduceGT,Int.reduceGE,Int.reduceToNat,↓reduceIte,List.reduceReplicate,Nat.reduceAdd,Nat.reduceSub,Nat.reduceMul,Nat.reduceLT,Nat.reduceLeDiff,Nat.reduceBEq,Nat.reduceEqDiff,hwd,e0,h1',h2',dn]
 refine CallOb.pureH (fun w' hp=>hdec _ w' hp (by simp +contextual)) ?_
 rintro q N2 (⟨why,rfl,hy⟩ | ⟨k1,k2,m,B,L,x,k3,k4,k5,k6,rfl,k7⟩)
 ·unfold noV
  refine ⟨?_⟩
  simp (config := { maxSteps := 4000000 }) only [↓sxw,sxw,tf48,sxu,sxl,sxm,Int.reduceBEq,Int.reduceBNe,Int.reduceLT,Int.reduceLE,Int.reduceEq,Int.reduceGT,Int.reduceGE,Int.reduceToNat,↓reduceIte,List.reduceReplicate,Nat.reduceAdd,Nat.reduceSub,Nat.reduceMul,Nat.reduceLT,Nat.reduceLeDiff,Nat.reduceBEq,Nat.reduceEqDiff]
  exact .inr (.inl ⟨why,rfl,hy⟩)
 ·obtain ⟨ax,cx,rfl⟩:=k7.shape
  refine ⟨?_⟩
  simp (config := { maxSteps := 4000000 }) only [↓sxw,sxw,tf48,sxu,sxl,sxm,Int.reduceBEq,Int.reduceBNe,Int.reduceLT,Int.reduceLE,Int.reduceEq,Int.reduceGT,Int.reduceGE,Int.reduceToNat,↓reduceIte,List.reduceReplicate,Nat.reduceAdd,Nat.reduceSub,Nat.reduceMul,Nat.reduceLT,Nat.reduceLeDiff,Nat.reduceBEq,Nat.reduceEqDiff]
  exact .inr (.inr ⟨k1,k2,m,B,L,_,k3,k4,k5,k6,rfl,k7.mono (by simp +contextual)⟩)
end Go.Proofs.YtljpknnhimkkjaaGreatDoor

