/- Parts of a proof: the symbolic walk and what it shows of single functions. -/
import Derived.Test.YtljpknnhimkkjaaGreatDoorP1
import Derived.Test.YtljpknnhimkkjaaGreatDoorX3
set_option linter.all false
namespace Go.Proofs.YtljpknnhimkkjaaGreatDoor
open Go.RowKit Go.SX
set_option maxRecDepth 10000
set_option maxHeartbeats 8000000
set_option linter.unusedSimpArgs false
set_option linter.unusedVariables false
abbrev Frm:=Int × Int × Int
def frc (p:Frm):List Value:=[I p.1,I p.2.1,I p.2.2]
end Go.Proofs.YtljpknnhimkkjaaGreatDoor

namespace Go.Proofs.YtljpknnhimkkjaaGreatDoor
open Go.RowKit Go.SX
set_option maxRecDepth 10000
set_option maxHeartbeats 4000000
set_option linter.unusedSimpArgs false
set_option linter.unusedVariables false
structure Vg where
 c:Cht
 b:Cls
 k:Nat
 t:Nat
 tc:Nat
 ts:Nat
def Vg.n (g:Vg):Nat:=g.c.depth.length
def Vg.st (g:Vg) (y s:Nat):Nat:=if s > g.ts then s else if y = g.tc then s + 1 else 0
def Vg.wg (g:Vg) (x y:Nat):Int:=if y = x then g.b.idle else g.b.move
inductive Vg.R (g:Vg):Nat → Nat → Nat → Int → Prop
 | zero:g.R 0 (g.st g.k 0) g.k 0
 | step {i s x y:Nat} {B:Int}:g.R i s x B → y ∈ nbL g.c.W g.c.H x → canB g.c g.b (g.t + i + 1) y = true → g.R (i + 1) (g.st y s) y (B + g.wg x y)
structure Vg.Ok (g:Vg):Prop where
 ok:g.c.ok
 cls:clsB g.b = true
 k:g.k < g.c.depth.length
 t:g.t < g.c.tide.length
 tc:g.tc < g.c.depth.length
 ts:g.ts ≤ 8
theorem Vg.st_le (g:Vg) {y s:Nat} (h:s < g.ts + 2):g.st y s < g.ts + 2:=by
 unfold Vg.st
 split
 ·omega
 ·split <;> omega
theorem Vg.wg_bd {g:Vg} (h:g.Ok) (x y:Nat):0 ≤ g.wg x y ∧ g.wg x y ≤ 100:=by
 have:=(clsB_iff g.b).1 h.cls
 unfold Vg.wg
 split <;> omega
theorem nb_lt {g:Vg} (h:g.Ok) {x y:Nat} (hx:x < g.c.depth.length) (hy:y ∈ nbL g.c.W g.c.H x):y < g.c.depth.length:=by
 have hd:=h.ok.dims
 have:=nbL_lt (W:=g.c.W) (H:=g.c.H) (k:=x) (by omega) y hy
 omega
theorem Vg.R_bd {g:Vg} (h:g.Ok) {i s x:Nat} {B:Int} (hr:g.R i s x B):s < g.ts + 2 ∧ x < g.c.depth.length ∧ 0 ≤ B ∧ B ≤ 100 * i:=by
 induction hr with
 | zero=>exact ⟨g.st_le (by omega),h.k,by omega,by omega⟩
 | @step i s x y B _ hy _ ih=>
  have h1:=g.wg_bd h x y
  have h2:=ih.2.2
  exact ⟨g.st_le ih.1,nb_lt h ih.2.1 hy,by omega,by omega⟩
def nvr:Int:=1073741824
def en (R:List (List Frm)) (s x:Nat):Frm:=(R.getD s []).getD x (0,0,0)
def setE (R:List (List Frm)) (s x:Nat) (e:Frm):List (List Frm):=R.set s ((R.getD s []).set x e)
def Vg.shape (g:Vg) (R:List (List Frm)):Prop:=R.length = g.ts + 2 ∧ ∀ s,s < g.ts + 2 → (R.getD s []).length = g.c.depth.length
theorem getD_set {α:Type} {l:List α} {i j:Nat} {x d:α} (hi:i < l.length):(l.set i x).getD j d = if i = j then x else l.getD j d:=by
 rw [List.getD_eq_getElem?_getD,List.getD_eq_getElem?_getD,List.getElem?_set]
 split
 ·rename_i h
  subst h
  simp [hi]
 ·rfl
theorem en_set {g:Vg} {R:List (List Frm)} (h:g.shape R) {s x s' x':Nat} (hs:s < g.ts + 2) (hx:x < g.c.depth.length) (e:Frm):en (setE R s x e) s' x' = if s = s' ∧ x = x' then e else en R s' x':=by
 unfold en setE
 rw [getD_set (by rw [h.1]; exact hs)]
 by_cases h1:s = s'
 ·subst h1
  rw [if_pos rfl,getD_set (by rw [h.2 s hs]; exact hx)]
  by_cases h2:x = x'
  ·rw [if_pos h2,if_pos ⟨rfl,h2⟩]
  ·rw [if_neg h2,if_neg fun h=>h2 h.2]
 ·rw [if_neg h1,if_neg fun h=>h1 h.1]
theorem shape_set {g:Vg} {R:List (List Frm)} (h:g.shape R) {s x:Nat} (hs:s < g.ts + 2) (e:Frm):g.shape (setE R s x e):=by
 refine ⟨by unfold setE; rw [List.length_set]; exact h.1,fun s' hs'=>?_⟩
 unfold setE
 rw [getD_set (by rw [h.1]; exact hs)]
 split
 ·rw [List.length_set,h.2 s hs]
 ·exact h.2 s' hs'
structure Vg.Tab (g:Vg) (i:Nat) (R:List (List Frm)):Prop where
 shape:g.shape R
 least:∀ s x B,g.R i s x B → (en R s x).1 ≤ B
 att:∀ s x,s < g.ts + 2 → x < g.c.depth.length → (en R s x).1 ≠ nvr → g.R i s x (en R s x).1
theorem Vg.Tab.bd {g:Vg} (h:g.Ok) {i:Nat} {R:List (List Frm)} (hT:g.Tab i R) {s x:Nat} (hs:s < g.ts + 2) (hx:x < g.c.depth.length):(en R s x).1 = nvr ∨ 0 ≤ (en R s x).1 ∧ (en R s x).1 ≤ 100 * i:=by
 by_cases h0:(en R s x).1 = nvr
 ·exact .inl h0
 ·have:=g.R_bd h (hT.att s x hs hx h0)
  exact .inr ⟨this.2.2.1,this.2.2.2⟩
def Vg.Prd (g:Vg) (i:Nat) (R R':List (List Frm)):Prop:=∀ s y,s < g.ts + 2 → y < g.c.depth.length → (en R' s y).1 ≠ nvr → ∃ x s0:Nat,(en R' s y).2 = ((x:Int),(s0:Int)) ∧ x < g.c.depth.length ∧ s0 < g.ts + 2 ∧ (en R s0 x).1 ≠ nvr ∧ y ∈ nbL g.c.W g.c.H x ∧ canB g.c g.b (g.t + i + 1) y = true ∧ s = g.st y s0 ∧ (en R' s y).1 = (en R s0 x).1 + g.wg x y
structure Vg.Nxt (g:Vg) (i:Nat) (R:List (List Frm)) (done:Nat → Nat → Nat → Prop) (N:List (List Frm)):Prop where
 shape:g.shape N
 prd:g.Prd i R N
 low:∀ s0 x0 j y,done s0 x0 j → s0 < g.ts + 2 → x0 < g.c.depth.length → (en R s0 x0).1 ≠ nvr → (nbL g.c.W g.c.H x0)[j]? = some y → canB g.c g.b (g.t + i + 1) y = true → (en N (g.st y s0) y).1 ≤ (en R s0 x0).1 + g.wg x0 y
 top:∀ s x,(en N s x).1 ≤ nvr
def Vg.void (g:Vg):List (List Frm):=List.replicate (g.ts + 2) (List.replicate g.c.depth.length (nvr,0,0))
theorem Vg.void_shape (g:Vg):g.shape g.void:=by
 refine ⟨List.length_replicate,fun s hs=>?_⟩
 unfold Vg.void
 rw [List.getD_eq_getElem?_getD,List.getElem?_replicate,if_pos hs,Option.getD_some,List.length_replicate]
theorem Vg.void_en (g:Vg) {s x:Nat} (hs:s < g.ts + 2) (hx:x < g.c.depth.length):en g.void s x = (nvr,0,0):=by
 unfold en Vg.void
 rw [List.getD_eq_getElem?_getD (l:=List.replicate (g.ts + 2) _),List.getElem?_replicate,if_pos hs,Option.getD_some,List.getD_eq_getElem?_getD,List.getElem?_replicate,if_pos hx,Option.getD_some]
theorem Vg.Nxt.mono {g:Vg} {i:Nat} {R N:List (List Frm)} {d d':Nat → Nat → Nat → Prop} (h:g.Nxt i R d N) (hd:∀ s0 x0 j,d' s0 x0 j → s0 < g.ts + 2 → x0 < g.c.depth.length → (en R s0 x0).1 ≠ nvr → j < (nbL g.c.W g.c.H x0).length → d s0 x0 j):g.Nxt i R d' N:=
 ⟨h.shape,h.prd,fun s0 x0 j y h1 h2 h3 h4 h5 h6=>h.low s0 x0 j y (hd s0 x0 j h1 h2 h3 h4 (List.getElem?_eq_some_iff.1 h5).1) h2 h3 h4 h5 h6,h.top⟩
theorem Vg.Nxt.skip {g:Vg} {i:Nat} {R N:List (List Frm)} {d:Nat → Nat → Nat → Prop} (h:g.Nxt i R d N) {S X J y:Nat} (hy:(nbL g.c.W g.c.H X)[J]? = some y) (hc:canB g.c g.b (g.t + i + 1) y = true → (en N (g.st y S) y).1 ≤ (en R S X).1 + g.wg X y):g.Nxt i R (fun s x j=>d s x j ∨ s = S ∧ x = X ∧ j = J) N:=by
 refine ⟨h.shape,h.prd,fun s0 x0 j z h1 h2 h3 h4 h5 h6=>?_,h.top⟩
 rcases h1 with h1 | ⟨rfl,rfl,rfl⟩
 ·exact h.low s0 x0 j z h1 h2 h3 h4 h5 h6
 ·rw [hy] at h5
  cases h5
  exact hc h6
theorem Vg.Tab.first {g:Vg} (hg:g.Ok):g.Tab 0 (setE g.void (g.st g.k 0) g.k (0,0,0)):=by
 have hst:=g.st_le (y:=g.k) (s:=0) (by omega)
 have hen:=fun s' x'=>en_set g.void_shape (s':=s') (x':=x') hst hg.k (0,0,0)
 refine ⟨shape_set g.void_shape hst _,fun s x B hr=>?_,fun s x hs hx h0=>?_⟩
 ·cases hr with
  | zero=>
   rw [hen,if_pos ⟨rfl,rfl⟩]
   exact Int.le_refl _
 ·rw [hen] at h0 ⊢
  by_cases hk:g.st g.k 0 = s ∧ g.k = x
  ·obtain ⟨rfl,rfl⟩:=hk
   rw [if_pos ⟨rfl,rfl⟩]
   exact Vg.R.zero
  ·rw [if_neg hk,g.void_en hs hx] at h0
   exact absurd rfl h0
end Go.Proofs.YtljpknnhimkkjaaGreatDoor

namespace Go.Proofs.YtljpknnhimkkjaaGreatDoor
open Go.RowKit Go.SX
set_option maxRecDepth 10000
set_option maxHeartbeats 0
set_option linter.unusedSimpArgs false
set_option linter.unusedVariables false
def FR (n:Nat) (aa:List Addr) (R:List (List Frm)):List HO:=List.zipWith (fun a l=>HO.row (.slice (some a) n n) 234 3 (cat frc l)) aa R
def aq (n:Nat) (a:Addr):Option Addr × Nat × Nat:=(some a,n,n)
theorem FR_append (n:Nat) (aa bs:List Addr) (R S:List (List Frm)) (h:aa.length = R.length):FR n (aa ++ bs) (R ++ S) = FR n aa R ++ FR n bs S:=by
 unfold FR
 exact List.zipWith_append h
theorem FR_at {n:Nat} {aa:List Addr} {R:List (List Frm)} (h:aa.length = R.length) {s:Nat} (hs:s < aa.length):FR n aa R = FR n (aa.take s) (R.take s) ++ HO.row (.slice (some (aa[s])) n n) 234 3 (cat frc (R.getD s [])) :: FR n (aa.drop (s + 1)) (R.drop (s + 1)):=by
 have h1:aa = aa.take s ++ aa[s] :: aa.drop (s + 1):=by rw [List.getElem_cons_drop,List.take_append_drop]
 have h2:R = R.take s ++ R.getD s [] :: R.drop (s + 1):=by
  rw [List.getD_eq_getElem?_getD,List.getElem?_eq_getElem (by omega),Option.getD_some,List.getElem_cons_drop,List.take_append_drop]
 conv=>lhs; rw [h1,h2]
 rw [FR_append _ _ _ _ _ (by rw [List.length_take,List.length_take,h])]
 try rfl
theorem FR_mem {n:Nat} {aa:List Addr} {R:List (List Frm)} (h:aa.length = R.length) {s:Nat} (hs:s < aa.length):HO.row (.slice (some (aa[s])) n n) 234 3 (cat frc (R.getD s [])) ∈ FR n aa R:=by
 rw [FR_at h hs]
 try simp
end Go.Proofs.YtljpknnhimkkjaaGreatDoor

namespace Go.Proofs.YtljpknnhimkkjaaGreatDoor
open Go.RowKit Go.SX
set_option maxRecDepth 10000
set_option maxHeartbeats 0
set_option linter.unusedSimpArgs false
set_option linter.unusedVariables false
def LogM (g:Vg) (N:List HO) (qs:List (Option Addr × Nat × Nat)) (tabs:List (List (List Frm))):Prop:=qs.length = tabs.length ∧ ∀ (i:Nat) R,tabs[i]? = some R → ∃ b aa,qs[i]? = some (some ⟨b,0,none⟩,g.ts + 2,g.ts + 2) ∧ aa.length = g.ts + 2 ∧ HO.row (.slice (some ⟨b,0,none⟩) (g.ts + 2) (g.ts + 2)) 235 1 (cat slq (aa.map (aq g.c.depth.length))) ∈ N ∧ ∀ h ∈ FR g.c.depth.length aa R,h ∈ N
def Vg.Tabs (g:Vg) (tabs:List (List (List Frm))):Prop:=(∀ (i:Nat) R,tabs[i]? = some R → g.Tab i R) ∧ ∀ (i:Nat) R R',tabs[i]? = some R → tabs[i + 1]? = some R' → g.Prd i R R'
theorem LogM.mono {g:Vg} {N N':List HO} {qs:List (Option Addr × Nat × Nat)} {tabs:List (List (List Frm))} (h:LogM g N qs tabs) (hm:∀ h ∈ N,h ∈ N'):LogM g N' qs tabs:=
 ⟨h.1,fun i R hR=>by
  obtain ⟨b,aa,h1,h2,h3,h4⟩:=h.2 i R hR
  exact ⟨b,aa,h1,h2,hm _ h3,fun x hx=>hm _ (h4 x hx)⟩⟩
end Go.Proofs.YtljpknnhimkkjaaGreatDoor

namespace Go.Proofs.YtljpknnhimkkjaaGreatDoor
open Go.RowKit Go.SX
set_option maxRecDepth 10000
set_option maxHeartbeats 4000000
set_option linter.unusedSimpArgs false
set_option linter.unusedVariables false
inductive Vg.P (g:Vg):List Nat → Nat → Int → Prop
 | zero:g.P [g.k] (g.st g.k 0) 0
 | step {L:List Nat} {x y s:Nat} {B:Int}:g.P (L ++ [x]) s B → y ∈ nbL g.c.W g.c.H x → canB g.c g.b (g.t + L.length + 1) y = true → g.P (L ++ [x] ++ [y]) (g.st y s) (B + g.wg x y)
theorem Vg.P.r {g:Vg} {L:List Nat} {s:Nat} {B:Int} (h:g.P L s B):∃ L' x,L = L' ++ [x] ∧ g.R L'.length s x B:=by
 induction h with
 | zero=>exact ⟨[],g.k,rfl,Vg.R.zero⟩
 | @step L x y s B _ hy hc ih=>
  obtain ⟨L',x',he,hr⟩:=ih
  obtain ⟨rfl,hx⟩:=List.append_inj' he rfl
  cases hx
  exact ⟨L ++ [x],y,rfl,by rw [List.length_append,List.length_singleton]; exact Vg.R.step hr hy hc⟩
theorem Vg.R.p {g:Vg} {i s x:Nat} {B:Int} (h:g.R i s x B):∃ L,L.length = i ∧ g.P (L ++ [x]) s B:=by
 induction h with
 | zero=>exact ⟨[],rfl,Vg.P.zero⟩
 | @step i s x y B _ hy hc ih=>
  obtain ⟨L,hl,hp⟩:=ih
  exact ⟨L ++ [x],by rw [List.length_append,List.length_singleton,hl],Vg.P.step hp hy (by rw [hl]; exact hc)⟩
structure Vg.Best (g:Vg) (rdy:Nat → Bool) (m:Nat) (B:Int):Prop where
 lt:g.t + m < g.c.tide.length
 isr:rdy (g.t + m) = true
 r:g.R m (g.ts + 1) g.k B
 least:∀ i B',g.t + i < g.c.tide.length → rdy (g.t + i) = true → g.R i (g.ts + 1) g.k B' → B ≤ B' ∧ (B' = B → m ≤ i)
def TabW (g:Vg) (w:World) (v:Value) (R:List (List Frm)):Prop:=∃ vs:List (Option Addr × Nat × Nat),vs.length = g.ts + 2 ∧ Sl w v 1 (cat slq vs) ∧ ∀ s,s < g.ts + 2 → ∃ q,vs[s]? = some q ∧ Sl w (.slice q.1 q.2.1 q.2.2) 3 (cat frc (R.getD s []))
def LogW (g:Vg) (w:World) (v:Value) (tabs:List (List (List Frm))):Prop:=∃ qs:List (Option Addr × Nat × Nat),qs.length = tabs.length ∧ Sl w v 1 (cat slq qs) ∧ ∀ (i:Nat) R,tabs[i]? = some R → ∃ q,qs[i]? = some q ∧ TabW g w (.slice q.1 q.2.1 q.2.2) R
theorem LogM.w {g:Vg} {N H:List HO} {qs:List (Option Addr × Nat × Nat)} {tabs:List (List (List Frm))} (h:LogM g N qs tabs) (hT:g.Tabs tabs) {v:Value} (hv:HO.row v 236 1 (cat slq qs) ∈ N) (hm:∀ h ∈ N,h ∈ H) {w0:Base} {w:World} (hp:Hp w0 H w):LogW g w v tabs:=by
 refine ⟨qs,h.1,row_hp (hm _ hv) hp,fun i R hR=>?_⟩
 obtain ⟨b,aa,h1,h2,h3,h4⟩:=h.2 i R hR
 have hsh:=(hT.1 i R hR).shape
 refine ⟨_,h1,aa.map (aq g.c.depth.length),by rw [List.length_map]; exact h2,row_hp (hm _ h3) hp,fun s hs=>?_⟩
 exact ⟨aq g.c.depth.length (aa[s]'(by omega)),by rw [List.getElem?_map,List.getElem?_eq_getElem (show s < aa.length by omega)]; rfl,row_hp (hm _ (h4 _ (FR_mem (by rw [h2,hsh.1]) (by omega)))) hp⟩
theorem LogW.hp {g:Vg} {w0:World} {v:Value} {tabs:List (List (List Frm))} (h:LogW g w0 v tabs) {H:List HO} {w:World} (hp:Hp ⟨w0,fun _=>False⟩ H w):LogW g w v tabs:=by
 obtain ⟨qs,h1,h2,h3⟩:=h
 refine ⟨qs,h1,Sl.hp (w0:=⟨w0,fun _=>False⟩) h2 (fun _ _=>id) hp,fun i R hR=>?_⟩
 obtain ⟨q,k1,vs,k2,k3,k4⟩:=h3 i R hR
 refine ⟨q,k1,vs,k2,Sl.hp (w0:=⟨w0,fun _=>False⟩) k3 (fun _ _=>id) hp,fun s hs=>?_⟩
 obtain ⟨q',j1,j2⟩:=k4 s hs
 exact ⟨q',j1,Sl.hp (w0:=⟨w0,fun _=>False⟩) j2 (fun _ _=>id) hp⟩
end Go.Proofs.YtljpknnhimkkjaaGreatDoor

namespace Go.Proofs.YtljpknnhimkkjaaGreatDoor
open Go.RowKit Go.SX
set_option maxRecDepth 10000
set_option maxHeartbeats 0
set_option linter.unusedSimpArgs false
set_option linter.unusedVariables false
def Vg.of (c:Cht) (b:Cls) (r:Rmp) (t tc ts:Int):Vg:=⟨c,b,r.cell.toNat,t.toNat,tc.toNat,ts.toNat⟩
theorem ramp_cell {c:Cht} {r:Rmp} (h:rampB c r = true):0 ≤ r.cell ∧ r.cell ≤ (c.depth.length:Int) - 1:=by
 unfold rampB notCell at h
 simp only [Bool.and_eq_true,Bool.not_not,inB_iff] at h
 exact h.1.1.1.1
end Go.Proofs.YtljpknnhimkkjaaGreatDoor

