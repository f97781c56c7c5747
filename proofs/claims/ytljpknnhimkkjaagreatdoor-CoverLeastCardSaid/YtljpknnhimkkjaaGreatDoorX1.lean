/- Parts of a proof: the symbolic walk and what it shows of single functions. -/
import Derived.CallsIn
import Derived.OrdersIn
import Derived.Below
import Derived.Laws.AppendOwn
import Derived.ChangeKeysEq
import Derived.Laws.Slices
import Derived.Laws.StructEq
import Derived.Laws.MakeOwn
import Derived.Laws.Tables
import Derived.RangeFuncRecord
import Derived.RangeFuncIn
import Derived.RangeFuncSeq
set_option linter.all false
namespace Go.SX
open Go.RowKit
inductive SV where
 | v (x:Value)
 | b (t:Bool)
 | p (j off:Nat)
def SV.real (bs:Nat → Nat):SV → Value
 | .v x=>x
 | .b t=>.bool t
 | .p j off=>.pointer (some ⟨bs j,off,none⟩)
def SV.wf (n:Nat):SV → Prop
 | .p j _=>j < n
 | _=>True
theorem SV.real_agree {bs bs':Nat → Nat} {n:Nat} {s:SV} (hs:s.wf n) (h:∀ j,j < n → bs' j = bs j):s.real bs' = s.real bs:=by
 cases s with
 | v x=>rfl
 | b t=>rfl
 | p j off=>simp [SV.real,h j hs]
def fget:List SV → Nat → SV
 | [],_=>.v undef
 | x :: _,0=>x
 | _ :: l,n + 1=>fget l n
def fset:List SV → Nat → SV → List SV
 | [],_,_=>[]
 | _ :: l,0,y=>y :: l
 | x :: l,n + 1,y=>x :: fset l n y
def put (fr:List SV) (d:Option Nat) (s:SV):List SV:=
 match d with
 | some d=>fset fr d s
 | none=>fr
def rf (bs:Nat → Nat) (fr:List SV):Array Value:=(fr.map (SV.real bs)).toArray
def WfFr (n:Nat) (fr:List SV):Prop:=∀ s ∈ fr,s.wf n
theorem fget_mem:∀ (fr:List SV) (t:Nat),fget fr t ∈ fr ∨ fget fr t = .v undef
 | [],_=>.inr rfl
 | x :: l,0=>.inl (by simp [fget])
 | x :: l,t + 1=>by
  rcases fget_mem l t with h | h
  ·exact .inl (List.mem_cons_of_mem _ h)
  ·exact .inr h
theorem WfFr.get {n:Nat} {fr:List SV} (h:WfFr n fr) (t:Nat):(fget fr t).wf n:=by
 rcases fget_mem fr t with m | e
 ·exact h _ m
 ·rw [e]; trivial
theorem fset_mem:∀ (fr:List SV) (d:Nat) (y s:SV),s ∈ fset fr d y → s = y ∨ s ∈ fr
 | [],_,_,_,h=>by simp [fset] at h
 | x :: l,0,y,s,h=>by
  simp only [fset,List.mem_cons] at h ⊢
  rcases h with h | h
  ·exact .inl h
  ·exact .inr (.inr h)
 | x :: l,d + 1,y,s,h=>by
  simp only [fset,List.mem_cons] at h ⊢
  rcases h with h | h
  ·exact .inr (.inl h)
  ·rcases fset_mem l d y s h with h | h
   ·exact .inl h
   ·exact .inr (.inr h)
theorem WfFr.set {n:Nat} {fr:List SV} (h:WfFr n fr) {y:SV} (hy:y.wf n) (d:Nat):WfFr n (fset fr d y):=fun s hs=>by
 rcases fset_mem fr d y s hs with e | m
 ·rw [e]; exact hy
 ·exact h _ m
theorem WfFr.put {n:Nat} {fr:List SV} (h:WfFr n fr) {y:SV} (hy:y.wf n) (d:Option Nat):WfFr n (put fr d y):=by
 cases d with
 | none=>exact h
 | some d=>exact h.set hy d
theorem SV.wf_le {n m:Nat} {s:SV} (h:s.wf n) (hle:n ≤ m):s.wf m:=by
 cases s with
 | p j off=>exact Nat.lt_of_lt_of_le h hle
 | _=>trivial
theorem WfFr.le {n m:Nat} {fr:List SV} (h:WfFr n fr) (hle:n ≤ m):WfFr m fr:=fun s hs=>SV.wf_le (h s hs) hle
theorem fget_set_same:∀ (fr:List SV) (d:Nat) (y:SV),d < fr.length → fget (fset fr d y) d = y
 | [],d,_,h=>by simp at h
 | _ :: _,0,_,_=>rfl
 | _ :: l,d + 1,y,h=>by simpa [fset,fget] using fget_set_same l d y (by simpa using h)
theorem fget_set_ne:∀ (fr:List SV) (d t:Nat) (y:SV),t ≠ d → fget (fset fr d y) t = fget fr t
 | [],_,_,_,_=>rfl
 | _ :: _,0,0,_,h=>absurd rfl h
 | _ :: _,0,t + 1,_,_=>rfl
 | _ :: _,d + 1,0,_,_=>rfl
 | _ :: l,d + 1,t + 1,y,h=>by simpa [fset,fget] using fget_set_ne l d t y (by omega)
theorem length_fset:∀ (fr:List SV) (d:Nat) (y:SV),(fset fr d y).length = fr.length
 | [],_,_=>rfl
 | _ :: _,0,_=>rfl
 | _ :: l,d + 1,y=>by simp [fset,length_fset l d y]
theorem rf_get (bs:Nat → Nat):∀ (fr:List SV) (t:Nat),(rf bs fr).getD t undef = (fget fr t).real bs:=by
 intro fr t
 unfold rf
 simp only [Array.getD_eq_getD_getElem?,List.getElem?_toArray]
 induction fr generalizing t with
 | nil=>simp [fget,SV.real]
 | cons x l ih=>
  cases t with
  | zero=>simp [fget]
  | succ t=>simpa [fget] using ih t
theorem rf_set (bs:Nat → Nat) (fr:List SV) (d:Nat) (y:SV):(rf bs fr).setIfInBounds d (y.real bs) = rf bs (fset fr d y):=by
 unfold rf
 rw [List.setIfInBounds_toArray]
 congr 1
 induction fr generalizing d with
 | nil=>simp [fset]
 | cons x l ih=>
  cases d with
  | zero=>simp [fset]
  | succ d=>simpa [fset] using ih d
theorem rf_agree {bs bs':Nat → Nat} {n:Nat} {fr:List SV} (hf:WfFr n fr) (h:∀ j,j < n → bs' j = bs j):rf bs' fr = rf bs fr:=by
 unfold rf
 congr 1
 exact List.map_congr_left fun s hs=>SV.real_agree (hf s hs) h
abbrev Box:=TypeId × List Value
inductive HO where
 | cells (b:Nat) (T:TypeId) (cs:List Value)
 | row (v:Value) (E:TypeId) (sz:Nat) (xs:List Value)
 | obj (b:Nat) (o:Obj)
 | any (fx fr:Nat → Prop) (ok:World → Prop)
 | ro (h:HO)
def HO.fp:HO → Nat → Prop
 | .cells b _ _,k=>k = b
 | .row v _ _ _,k=>v.ownBlock = some k
 | .obj b _,k=>k = b
 | .any fx fr _,k=>fx k ∨ fr k
 | .ro h,k=>h.fp k
def HO.fpx:HO → Nat → Prop
 | .cells b _ _,k=>k = b
 | .row v _ _ _,k=>v.ownBlock = some k
 | .obj b _,k=>k = b
 | .any fx _ _,k=>fx k
 | .ro _,_=>False
theorem HO.fp_of_fpx {h:HO} {b:Nat} (x:h.fpx b):h.fp b:=by
 cases h with
 | any fx fr ok=>exact .inl x
 | ro h=>exact x.elim
 | _=>exact x
structure SameOn (fp:Nat → Prop) (w w':World):Prop where
 size:w.heap.size ≤ w'.heap.size
 same:∀ b,fp b → w'.heap[b]? = w.heap[b]?
def RowOk (w:World) (v:Value) (E:TypeId) (sz:Nat) (xs:List Value):Prop:=
 (v = .slice none 0 0 ∧ xs = []) ∨
 ∃ b off len cap arr,v = .slice (some ⟨b,off,none⟩) len cap ∧ w.heap[b]? = some (.cells arr E (0,0)) ∧ xs.length = len * sz ∧ len ≤ cap ∧ cap ≤ maxLen ∧
  off + cap * sz ≤ arr.size ∧ (arr.toList.drop off).take (len * sz) = xs
theorem RowOk.cap {w:World} {ad:Option Addr} {n c:Nat} {E sz:Nat} {xs:List Value} (h:RowOk w (.slice ad n c) E sz xs):n ≤ c:=by
 rcases h with ⟨h,_⟩ | ⟨b,off,len,cap,arr,h,_,_,hl,_⟩
 ·simp only [Value.slice.injEq] at h
  omega
 ·simp only [Value.slice.injEq] at h
  omega
def HO.ok (w:World):HO → Prop
 | .cells b T cs=>w.heap[b]? = some (.cells cs.toArray T (0,0))
 | .row v E sz xs=>RowOk w v E sz xs
 | .obj b o=>w.heap[b]? = some o
 | .any fx fr ok=>ok w ∧ (∀ b,fx b ∨ fr b → b < w.heap.size) ∧ ∀ w1 w2,SameOn (fun b=>fx b ∨ fr b) w1 w2 → (∀ b,fx b ∨ fr b → b < w1.heap.size) → ok w1 → ok w2
 | .ro h=>h.ok w
theorem lt_of_heap {w:World} {b:Nat} {o:Obj} (h:w.heap[b]? = some o):b < w.heap.size:=(Array.getElem?_eq_some_iff.1 h).1
theorem HO.lt {w:World}:∀ {h:HO},h.ok w → ∀ {b:Nat},h.fp b → b < w.heap.size
 | .cells c T cs,hk,b,hb=>by cases hb; exact lt_of_heap hk
 | .row v E sz xs,hk,b,hb=>by
  rcases hk with ⟨rfl,_⟩ | ⟨c,off,len,cap,arr,rfl,hh,_⟩
  ·simp [HO.fp,Value.ownBlock] at hb
  ·simp [HO.fp,Value.ownBlock] at hb; subst hb; exact lt_of_heap hh
 | .obj c o,hk,b,hb=>by cases hb; exact lt_of_heap hk
 | .any fx fr ok,hk,b,hb=>hk.2.1 b hb
 | .ro h,hk,b,hb=>HO.lt (h:=h) hk hb
theorem HO.stable {w w':World}:∀ {h:HO},h.ok w → SameOn h.fp w w' → h.ok w'
 | .cells c T cs,hk,hs=>(hs.same c rfl).trans hk
 | .row v E sz xs,hk,hs=>by
  rcases hk with e | ⟨c,off,len,cap,arr,rfl,hh,rest⟩
  ·exact .inl e
  ·exact .inr ⟨c,off,len,cap,arr,rfl,(hs.same c (by simp [HO.fp,Value.ownBlock])).trans hh,rest⟩
 | .obj c o,hk,hs=>(hs.same c rfl).trans hk
 | .any fx fr ok,hk,hs=>⟨hk.2.2 _ _ hs hk.2.1 hk.1,fun b hb=>Nat.lt_of_lt_of_le (hk.2.1 b hb) hs.size,hk.2.2⟩
 | .ro h,hk,hs=>HO.stable (h:=h) hk hs
def Apart (h h':HO):Prop:=∀ b,h.fp b → h'.fp b → ¬ h.fpx b ∧ ¬ h'.fpx b
theorem Apart.symm {h h':HO} (a:Apart h h'):Apart h' h:=fun b hb hb'=>⟨(a b hb' hb).2,(a b hb' hb).1⟩
def fps (H:List HO) (b:Nat):Prop:=∃ h ∈ H,h.fp b
def fpsx (H:List HO) (b:Nat):Prop:=∃ h ∈ H,h.fpx b
theorem fps_of_fpsx {H:List HO} {b:Nat} (h:fpsx H b):fps H b:=by
 obtain ⟨x,hx,hb⟩:=h
 exact ⟨x,hx,HO.fp_of_fpx hb⟩
structure Base where
 w:World
 X:Nat → Prop
structure Keep (M:Nat → Prop) (w w':World):Prop where
 os:w'.os = w.os
 tape:w'.tape = w.tape
 output:w'.output = w.output
 size:w.heap.size ≤ w'.heap.size
 block:∀ k,k < w.heap.size → ¬ M k → w'.heap[k]? = w.heap[k]?
theorem Keep.refl (M:Nat → Prop) (w:World):Keep M w w:=⟨rfl,rfl,rfl,Nat.le_refl _,fun _ _ _=>rfl⟩
theorem Keep.mono {M M':Nat → Prop} {w w':World} (h:Keep M w w') (hm:∀ b,M b → M' b):Keep M' w w':=
 ⟨h.os,h.tape,h.output,h.size,fun k hk hn=>h.block k hk fun m=>hn (hm k m)⟩
theorem Keep.below {w w':World} (h:Keep (fun _=>False) w w'):Below w.heap.size w w':=⟨h.os,h.tape,h.output,h.size,fun k hk=>h.block k hk id⟩
theorem Keep.into {M X:Nat → Prop} {w0 w w':World} (h:Keep M w w') (hb:Keep X w0 w) (hM:∀ b,M b → X b ∨ w0.heap.size ≤ b):Keep X w0 w':=
 ⟨h.os.trans hb.os,h.tape.trans hb.tape,h.output.trans hb.output,Nat.le_trans hb.size h.size,fun k hk hn=>
  (h.block k (Nat.lt_of_lt_of_le hk hb.size) fun m=>by rcases hM k m with x | x; exact hn x; omega).trans (hb.block k hk hn)⟩
theorem Keep.trans {M M':Nat → Prop} {a b c:World} (h:Keep M a b) (k:Keep M' b c):Keep (fun x=>M x ∨ M' x) a c:=
 ⟨k.os.trans h.os,k.tape.trans h.tape,k.output.trans h.output,Nat.le_trans h.size k.size,
  fun i hi hn=>(k.block i (Nat.lt_of_lt_of_le hi h.size) fun m=>hn (.inr m)).trans (h.block i hi fun m=>hn (.inl m))⟩
theorem Keep.drew {M:Nat → Prop} {w w':World} (h:Keep M w w'):Keep M w w'.drew:=⟨h.os,h.tape,h.output,h.size,h.block⟩
theorem Keep.alloc (M:Nat → Prop) (w:World) (o:Obj):Keep M w (w.alloc o):=
 ⟨rfl,rfl,rfl,by simp,fun k hk _=>Below.heap_alloc w o k hk⟩
theorem Keep.sameOn {M fp:Nat → Prop} {w w':World} (h:Keep M w w') (hlt:∀ b,fp b → b < w.heap.size) (hd:∀ b,fp b → ¬ M b):SameOn fp w w':=
 ⟨h.size,fun b hb=>h.block b (hlt b hb) (hd b hb)⟩
structure Hp (w0:Base) (H:List HO) (w:World):Prop where
 ext:Keep w0.X w0.w w
 ok:∀ h ∈ H,h.ok w
 old:∀ h ∈ H,∀ b,h.fpx b → w0.X b ∨ w0.w.heap.size ≤ b
 nd:H.Pairwise Apart
structure Rel (w0:Base) (bs:Nat → Nat) (ks:List (Nat × Obj)) (L:List Box) (H:List HO) (w:World):Prop where
 hp:Hp w0 H w
 box:∀ j T cs,L[j]? = some (T,cs) → w.heap[bs j]? = some (.cells cs.toArray T (0,0))
 bold:∀ j,j < L.length → w0.w.heap.size ≤ bs j
 bnd:∀ i j,i < L.length → j < L.length → bs i = bs j → i = j
 bh:∀ j,j < L.length → ∀ h ∈ H,¬ h.fp (bs j)
 kok:∀ x ∈ ks,w.heap[x.1]? = some x.2
 kold:∀ x ∈ ks,w0.w.heap.size ≤ x.1
 kh:∀ x ∈ ks,∀ h ∈ H,¬ h.fp x.1
 kb:∀ x ∈ ks,∀ j,j < L.length → x.1 ≠ bs j
theorem Rel.blt {w0:Base} {bs:Nat → Nat} {ks:List (Nat × Obj)} {L:List Box} {H:List HO} {w:World} (r:Rel w0 bs ks L H w) {j:Nat} (hj:j < L.length):bs j < w.heap.size:=by
 obtain ⟨T,cs⟩:Box:=L[j]
 exact lt_of_heap (r.box j _ _ (by rw [List.getElem?_eq_getElem hj]))
theorem Rel.keep {w0:Base} {bs:Nat → Nat} {ks:List (Nat × Obj)} {L:List Box} {H H':List HO} {w w':World} {M:Nat → Prop} (r:Rel w0 bs ks L H w)
  (hk:Keep M w w') (hM:∀ b,M b → fpsx H b) (hp:Hp w0 H' w') (hf:∀ h ∈ H',∀ b,h.fp b → fps H b ∨ w.heap.size ≤ b):Rel w0 bs ks L H' w':=by
 have nb:∀ j,j < L.length → ¬ M (bs j):=fun j hj m=>by obtain ⟨h,hh,hb⟩:=fps_of_fpsx (hM _ m); exact r.bh j hj h hh hb
 have nk:∀ x ∈ ks,¬ M x.1:=fun x hx m=>by obtain ⟨h,hh,hb⟩:=fps_of_fpsx (hM _ m); exact r.kh x hx h hh hb
 refine ⟨hp,fun j T cs hj=>?_,r.bold,r.bnd,fun j hj h hh hb=>?_,fun x hx=>?_,r.kold,fun x hx h hh hb=>?_,r.kb⟩
 ·have hlt:j < L.length:=(List.getElem?_eq_some_iff.1 hj).1
  rw [hk.block _ (r.blt hlt) (nb j hlt)]
  exact r.box j T cs hj
 ·rcases hf h hh _ hb with ⟨g,hg,hgb⟩ | hge
  ·exact r.bh j hj g hg hgb
  ·have:=r.blt hj; omega
 ·rw [hk.block _ (lt_of_heap (r.kok x hx)) (nk x hx)]
  exact r.kok x hx
 ·rcases hf h hh _ hb with ⟨g,hg,hgb⟩ | hge
  ·exact r.kh x hx g hg hgb
  ·have:=lt_of_heap (r.kok x hx); omega
def HImp (w0:Base) (H H':List HO):Prop:=∀ w,Hp w0 H w → Hp w0 H' w ∧ (∀ b,fps H' b → fps H b) ∧ ∀ b,fpsx H' b → fpsx H b
theorem HImp.refl (w0:Base) (H:List HO):HImp w0 H H:=fun _w h=>⟨h,fun _b h=>h,fun _b h=>h⟩
theorem HImp.trans {w0:Base} {A B C:List HO} (h:HImp w0 A B) (k:HImp w0 B C):HImp w0 A C:=fun w hw=>
 ⟨(k w (h w hw).1).1,fun b hb=>(h w hw).2.1 b ((k w (h w hw).1).2.1 b hb),fun b hb=>(h w hw).2.2 b ((k w (h w hw).1).2.2 b hb)⟩
theorem HImp.sub {w0:Base} {H H':List HO} (hs:H'.Sublist H):HImp w0 H H':=fun w hw=>
 ⟨⟨hw.ext,fun h hh=>hw.ok h (hs.subset hh),fun h hh=>hw.old h (hs.subset hh),hw.nd.sublist hs⟩,fun _b ⟨h,hh,hb⟩=>⟨h,hs.subset hh,hb⟩,fun _b ⟨h,hh,hb⟩=>⟨h,hs.subset hh,hb⟩⟩
theorem HImp.perm {w0:Base} {H H':List HO} (hs:H.Perm H'):HImp w0 H H':=fun w hw=>
 ⟨⟨hw.ext,fun h hh=>hw.ok h (hs.mem_iff.2 hh),fun h hh=>hw.old h (hs.mem_iff.2 hh),(hs.pairwise_iff (fun h=>Apart.symm h)).1 hw.nd⟩,fun _b ⟨h,hh,hb⟩=>⟨h,hs.mem_iff.2 hh,hb⟩,fun _b ⟨h,hh,hb⟩=>⟨h,hs.mem_iff.2 hh,hb⟩⟩
theorem HImp.nil (w0:Base) (H:List HO):HImp w0 H []:=HImp.sub (List.nil_sublist H)
theorem HImp.append {w0:Base} {A B C:List HO} (h:HImp w0 A B):HImp w0 (A ++ C) (B ++ C):=fun w hw=>by
 have hA:=h w ⟨hw.ext,fun x hx=>hw.ok x (List.mem_append_left _ hx),fun x hx=>hw.old x (List.mem_append_left _ hx),(List.pairwise_append.1 hw.nd).1⟩
 have up:∀ (f:HO → Nat → Prop) b,((∃ x ∈ B,f x b) → ∃ x ∈ A,f x b) → (∃ x ∈ B ++ C,f x b) → ∃ x ∈ A ++ C,f x b:=by
  rintro f b hf ⟨x,hx,hb⟩
  rcases List.mem_append.1 hx with hx | hx
  ·obtain ⟨z,hz,hzb⟩:=hf ⟨x,hx,hb⟩
   exact ⟨z,List.mem_append_left _ hz,hzb⟩
  ·exact ⟨x,List.mem_append_right _ hx,hb⟩
 refine ⟨⟨hw.ext,fun x hx=>?_,fun x hx=>?_,?_⟩,fun b=>up HO.fp b (hA.2.1 b),fun b=>up HO.fpx b (hA.2.2 b)⟩
 ·rcases List.mem_append.1 hx with hx | hx
  ·exact hA.1.ok x hx
  ·exact hw.ok x (List.mem_append_right _ hx)
 ·rcases List.mem_append.1 hx with hx | hx
  ·exact hA.1.old x hx
  ·exact hw.old x (List.mem_append_right _ hx)
 ·refine List.pairwise_append.2 ⟨hA.1.nd,(List.pairwise_append.1 hw.nd).2.1,fun x hx y hy b hb hb'=>?_⟩
  have hAC:=(List.pairwise_append.1 hw.nd).2.2
  obtain ⟨z,hz,hzb⟩:=hA.2.1 b ⟨x,hx,hb⟩
  refine ⟨fun hxx=>?_,(hAC z hz y hy b hzb hb').2⟩
  obtain ⟨z',hz',hzb'⟩:=hA.2.2 b ⟨x,hx,hxx⟩
  exact (hAC z' hz' y hy b (HO.fp_of_fpx hzb') hb').1 hzb'
theorem HImp.cons {w0:Base} {h:HO} {A B:List HO} (k:HImp w0 A B):HImp w0 (h :: A) (h :: B):=by
 have:=(k.append (C:=[h]))
 exact (HImp.perm (List.perm_append_comm (l₁:=[h]) (l₂:=A))).trans (this.trans (HImp.perm (List.perm_append_comm (l₁:=B) (l₂:=[h]))))
theorem Rel.imp {w0:Base} {bs:Nat → Nat} {ks:List (Nat × Obj)} {L:List Box} {H H':List HO} {w:World} (r:Rel w0 bs ks L H w) (hi:HImp w0 H H'):Rel w0 bs ks L H' w:=
 r.keep (Keep.refl (fun _=>False) w) (fun _ h=>h.elim) (hi w r.hp).1 fun h hh b hb=>.inl ((hi w r.hp).2.1 b ⟨h,hh,hb⟩)
theorem Hp.keep {w0:Base} {H:List HO} {w w':World} (hp:Hp w0 H w) (hk:Keep (fun _=>False) w w'):Hp w0 H w':=
 ⟨hk.into hp.ext (fun _ h=>h.elim),fun h hh=>HO.stable (hp.ok h hh) (hk.sameOn (fun _ hb=>HO.lt (hp.ok h hh) hb) fun _ _=>id),hp.old,hp.nd⟩
theorem Hp.alloc {w0:Base} {H:List HO} {w:World} (hp:Hp w0 H w) (o:Obj):Hp w0 H (w.alloc o):=hp.keep (Keep.alloc _ w o)
theorem Hp.cons {w0:Base} {H:List HO} {w:World} (hp:Hp w0 H w) {h:HO} (hk:h.ok w) (hn:∀ b,h.fp b → w0.X b ∨ w0.w.heap.size ≤ b) (ha:∀ b,h.fp b → ¬ fps H b):Hp w0 (h :: H) w:=
 ⟨hp.ext,fun x hx=>by rcases List.mem_cons.1 hx with rfl | hx; exact hk; exact hp.ok x hx,fun x hx=>by rcases List.mem_cons.1 hx with rfl | hx; exact fun b hb=>hn b (HO.fp_of_fpx hb); exact hp.old x hx,
  List.pairwise_cons.2 ⟨fun x hx b hb hb'=>(ha b hb ⟨x,hx,hb'⟩).elim,hp.nd⟩⟩
theorem Hp.drew {w0:Base} {H:List HO} {w:World} (hp:Hp w0 H w):Hp w0 H w.drew:=hp.keep (Keep.drew (Keep.refl _ w))
theorem Rel.drew {w0:Base} {bs:Nat → Nat} {ks:List (Nat × Obj)} {L:List Box} {H:List HO} {w:World} (r:Rel w0 bs ks L H w):Rel w0 bs ks L H w.drew:=
 r.keep (Keep.drew (Keep.refl (fun _=>False) w)) (fun _ h=>h.elim) r.hp.drew fun h hh b hb=>.inl ⟨h,hh,hb⟩
theorem Rel.newHO {w0:Base} {bs:Nat → Nat} {ks:List (Nat × Obj)} {L:List Box} {H:List HO} {w w':World} (r:Rel w0 bs ks L H w) (hk:Keep (fun _=>False) w w') {h:HO} (ho:h.ok w') (hn:∀ b,h.fp b → w.heap.size ≤ b):Rel w0 bs ks L (h :: H) w':=by
 refine r.keep hk (fun _ h=>h.elim) ((r.hp.keep hk).cons ho (fun b hb=>.inr (Nat.le_trans r.hp.ext.size (hn b hb))) fun b hb ⟨x,hx,hxb⟩=>?_) fun x hx b hb=>?_
 ·have:=HO.lt (r.hp.ok x hx) hxb
  have:=hn b hb
  omega
 ·rcases List.mem_cons.1 hx with rfl | hx
  ·exact .inr (hn b hb)
  ·exact .inl ⟨x,hx,hb⟩
theorem Rel.newBox {w0:Base} {bs:Nat → Nat} {ks:List (Nat × Obj)} {L:List Box} {H:List HO} {w:World} (r:Rel w0 bs ks L H w) (T:TypeId) (cs:List Value):
  ∃ bs',(∀ j,j < L.length → bs' j = bs j) ∧ bs' L.length = w.heap.size ∧ Rel w0 bs' ks (L ++ [(T,cs)]) H (w.alloc (.cells cs.toArray T)):=by
 refine ⟨fun j=>if j = L.length then w.heap.size else bs j,fun j hj=>by simp [Nat.ne_of_lt hj],by simp,?_⟩
 have hne:∀ j,j < L.length → bs j ≠ w.heap.size:=fun j hj=>Nat.ne_of_lt (r.blt hj)
 refine ⟨r.hp.alloc _,fun j T' cs' hj=>?_,fun j hj=>?_,fun i j hi hj e=>?_,fun j hj h hh hb=>?_,fun x hx=>?_,r.kold,r.kh,fun x hx j hj=>?_⟩
 ·by_cases h:j = L.length
  ·subst h
   simp at hj
   obtain ⟨rfl,rfl⟩:=hj
   simp only [if_true]
   exact heap_alloc_new w _
  ·have hlt:j < L.length:=by
    have:=(List.getElem?_eq_some_iff.1 hj).1
    simp at this; omega
   rw [List.getElem?_append_left hlt] at hj
   simp only [h,if_false]
   rw [Below.heap_alloc w _ _ (r.blt hlt)]
   exact r.box j T' cs' hj
 ·simp at hj
  by_cases h:j = L.length
  ·simp only [h,if_true]; exact r.hp.ext.size
  ·simp only [h,if_false]; exact r.bold j (by omega)
 ·simp at hi hj
  by_cases h:i = L.length <;> by_cases h':j = L.length
  ·omega
  ·simp only [h,h',if_true,if_false] at e
   exact absurd e.symm (hne j (by omega))
  ·simp only [h,h',if_true,if_false] at e
   exact absurd e (hne i (by omega))
  ·simp only [h,h',if_false] at e
   exact r.bnd i j (by omega) (by omega) e
 ·simp at hj
  by_cases h':j = L.length
  ·simp only [h',if_true] at hb
   have:=HO.lt (r.hp.ok h hh) hb
   omega
  ·simp only [h',if_false] at hb
   exact r.bh j (by omega) h hh hb
 ·rw [Below.heap_alloc w _ _ (lt_of_heap (r.kok x hx))]
  exact r.kok x hx
 ·simp at hj
  by_cases h:j = L.length
  ·simp only [h,if_true]
   exact Nat.ne_of_lt (lt_of_heap (r.kok x hx))
  ·simp only [h,if_false]
   exact r.kb x hx j (by omega)
def lset:List Box → Nat → List Value → List Box
 | [],_,_=>[]
 | x :: l,0,y=>(x.1,y) :: l
 | x :: l,j + 1,y=>x :: lset l j y
theorem length_lset:∀ (L:List Box) (j:Nat) (y:List Value),(lset L j y).length = L.length
 | [],_,_=>rfl
 | _ :: _,0,_=>rfl
 | _ :: l,j + 1,y=>by simp [lset,length_lset l j y]
theorem lset_get:∀ (L:List Box) (j:Nat) (y:List Value) (i:Nat),(lset L j y)[i]? = if i = j then L[i]?.map (fun x=>(x.1,y)) else L[i]?
 | [],j,y,i=>by simp [lset]
 | x :: l,0,y,0=>by simp [lset]
 | x :: l,0,y,i + 1=>by simp [lset]
 | x :: l,j + 1,y,0=>by simp [lset]
 | x :: l,j + 1,y,i + 1=>by simpa [lset] using lset_get l j y i
theorem Rel.setBox {w0:Base} {bs:Nat → Nat} {ks:List (Nat × Obj)} {L:List Box} {H:List HO} {w w':World} (r:Rel w0 bs ks L H w) {j:Nat} {T:TypeId} {cs cs':List Value} (hj:L[j]? = some (T,cs))
  (hk:Keep (fun b=>b = bs j) w w') (hn:w'.heap[bs j]? = some (.cells cs'.toArray T (0,0))):Rel w0 bs ks (lset L j cs') H w':=by
 have hlt:j < L.length:=(List.getElem?_eq_some_iff.1 hj).1
 have hsame:∀ h ∈ H,SameOn h.fp w w':=fun h hh=>hk.sameOn (fun _ hb=>HO.lt (r.hp.ok h hh) hb) fun b hb e=>r.bh j hlt h hh (e ▸ hb)
 refine ⟨⟨hk.into r.hp.ext (fun b e=>.inr (e ▸ r.bold j hlt)),fun h hh=>HO.stable (r.hp.ok h hh) (hsame h hh),r.hp.old,r.hp.nd⟩,fun i T' cs'' hi=>?_,fun i hi=>r.bold i (by rwa [length_lset] at hi),fun i k hi hk'=>r.bnd i k (by rwa [length_lset] at hi) (by rwa [length_lset] at hk'),
  fun i hi=>r.bh i (by rwa [length_lset] at hi),fun x hx=>?_,r.kold,r.kh,fun x hx i hi=>r.kb x hx i (by rwa [length_lset] at hi)⟩
 ·rw [lset_get] at hi
  by_cases e:i = j
  ·subst e
   simp [hj] at hi
   obtain ⟨rfl,rfl⟩:=hi
   exact hn
  ·rw [if_neg e] at hi
   have hil:i < L.length:=(List.getElem?_eq_some_iff.1 hi).1
   rw [hk.block _ (r.blt hil) fun e'=>e (r.bnd i j hil hlt e')]
   exact r.box i T' cs'' hi
 ·rw [hk.block _ (lt_of_heap (r.kok x hx)) fun e=>r.kb x hx j hlt e]
  exact r.kok x hx
theorem Rel.take {w0:Base} {bs:Nat → Nat} {ks:List (Nat × Obj)} {L:List Box} {H:List HO} {w:World} (r:Rel w0 bs ks L H w) (n:Nat):Rel w0 bs ks (L.take n) H w:=by
 have hl:∀ {j},j < (L.take n).length → j < L.length:=fun h=>by simp at h; omega
 refine ⟨r.hp,fun j T cs hj=>?_,fun j hj=>r.bold j (hl hj),fun i j hi hj=>r.bnd i j (hl hi) (hl hj),fun j hj=>r.bh j (hl hj),r.kok,r.kold,r.kh,fun x hx j hj=>r.kb x hx j (hl hj)⟩
 rw [List.getElem?_take] at hj
 split at hj
 ·exact r.box j T cs hj
 ·cases hj
theorem Rel.agree {w0:Base} {bs bs':Nat → Nat} {ks:List (Nat × Obj)} {L:List Box} {H:List HO} {w:World} (r:Rel w0 bs ks L H w) (h:∀ j,j < L.length → bs' j = bs j):Rel w0 bs' ks L H w:=
 ⟨r.hp,fun j T cs hj=>by rw [h j (List.getElem?_eq_some_iff.1 hj).1]; exact r.box j T cs hj,fun j hj=>by rw [h j hj]; exact r.bold j hj,fun i j hi hj e=>by rw [h i hi,h j hj] at e; exact r.bnd i j hi hj e,
  fun j hj=>by rw [h j hj]; exact r.bh j hj,r.kok,r.kold,r.kh,fun x hx j hj=>by rw [h j hj]; exact r.kb x hx j hj⟩
structure Frm (bs:Nat → Nat) (L:List Box) (H:List HO) (w:World) (bs':Nat → Nat) (L':List Box) (H':List HO) (w':World):Prop where
 keep:Keep (fun b=>fpsx H b ∨ ∃ j,j < L.length ∧ b = bs j) w w'
 fp:∀ b,fps H' b → fps H b ∨ w.heap.size ≤ b
 fx:∀ b,fpsx H' b → fpsx H b ∨ w.heap.size ≤ b
 bx:∀ j,j < L'.length → (∃ i,i < L.length ∧ bs' j = bs i) ∨ w.heap.size ≤ bs' j
theorem Frm.refl (bs:Nat → Nat) (L:List Box) (H:List HO) (w:World):Frm bs L H w bs L H w:=
 ⟨Keep.refl _ w,fun _ h=>.inl h,fun _ h=>.inl h,fun j hj=>.inl ⟨j,hj,rfl⟩⟩
theorem Frm.trans {bs bs1 bs2:Nat → Nat} {L L1 L2:List Box} {H H1 H2:List HO} {w w1 w2:World} (h:Frm bs L H w bs1 L1 H1 w1) (k:Frm bs1 L1 H1 w1 bs2 L2 H2 w2):Frm bs L H w bs2 L2 H2 w2:=by
 refine ⟨k.keep.into h.keep fun b hb=>?_,fun b hb=>?_,fun b hb=>?_,fun j hj=>?_⟩
 ·rcases hb with hb | ⟨j,hj,rfl⟩
  ·rcases h.fx b hb with x | x
   ·exact .inl (.inl x)
   ·exact .inr x
  ·rcases h.bx j hj with ⟨i,hi,e⟩ | x
   ·exact .inl (.inr ⟨i,hi,e⟩)
   ·exact .inr x
 ·rcases k.fp b hb with x | x
  ·exact h.fp b x
  ·exact .inr (Nat.le_trans h.keep.size x)
 ·rcases k.fx b hb with x | x
  ·exact h.fx b x
  ·exact .inr (Nat.le_trans h.keep.size x)
 ·rcases k.bx j hj with ⟨i,hi,e⟩ | x
  ·rw [e]; exact h.bx i hi
  ·exact .inr (Nat.le_trans h.keep.size x)
theorem Frm.imp {w0:Base} {bs bs':Nat → Nat} {L L':List Box} {H H' H2:List HO} {w w':World} (h:Frm bs L H w bs' L' H' w') (hp:Hp w0 H' w') (hi:HImp w0 H' H2):Frm bs L H w bs' L' H2 w':=
 ⟨h.keep,fun b hb=>h.fp b ((hi w' hp).2.1 b hb),fun b hb=>h.fx b ((hi w' hp).2.2 b hb),h.bx⟩
theorem Frm.take {bs bs':Nat → Nat} {L L':List Box} {H H':List HO} {w w':World} (h:Frm bs L H w bs' L' H' w') (n:Nat):Frm bs L H w bs' (L'.take n) H' w':=
 ⟨h.keep,h.fp,h.fx,fun j hj=>h.bx j (by simp at hj; omega)⟩
theorem Frm.len {bs bs':Nat → Nat} {L L' L2:List Box} {H H':List HO} {w w':World} (h:Frm bs L H w bs' L' H' w') (hl:L2.length = L'.length):Frm bs L H w bs' L2 H' w':=
 ⟨h.keep,h.fp,h.fx,fun j hj=>h.bx j (by omega)⟩
theorem Frm.new {bs:Nat → Nat} {L:List Box} {H H':List HO} {w w':World} (hk:Keep (fun _=>False) w w') (hf:∀ h ∈ H',∀ b,h.fp b → h ∈ H ∨ w.heap.size ≤ b):Frm bs L H w bs L H' w':=
 ⟨hk.mono fun _ h=>h.elim,fun b ⟨h,hh,hb⟩=>(hf h hh b hb).imp (fun x=>⟨h,x,hb⟩) id,fun b ⟨h,hh,hb⟩=>(hf h hh b (HO.fp_of_fpx hb)).imp (fun x=>⟨h,x,hb⟩) id,fun j hj=>.inl ⟨j,hj,rfl⟩⟩
structure Come (bs bs':Nat → Nat) (L L':List Box) (H H':List HO) (w w':World):Prop where
 agree:∀ j,j < L.length → bs' j = bs j
 le:L.length ≤ L'.length
 frm:Frm bs L H w bs' L' H' w'
theorem Come.refl (bs:Nat → Nat) (L:List Box) (H:List HO) (w:World):Come bs bs L L H H w w:=⟨fun _ _=>rfl,Nat.le_refl _,Frm.refl _ _ _ _⟩
theorem Come.trans {a b c:Nat → Nat} {A B C:List Box} {HA HB HC:List HO} {wa wb wc:World} (h:Come a b A B HA HB wa wb) (k:Come b c B C HB HC wb wc):Come a c A C HA HC wa wc:=
 ⟨fun j hj=>(k.agree j (Nat.lt_of_lt_of_le hj h.le)).trans (h.agree j hj),Nat.le_trans h.le k.le,h.frm.trans k.frm⟩
end Go.SX

namespace Go.SX
open Go.RowKit
inductive Plan where
 | fin
 | one (i:Nat) (p:Plan)
 | alt (i:Nat) (p q:Plan)
 | no
 | pre (i:Nat) (p:Plan)
 | ld (i:Nat) (p:Plan)
 | kl (i:Nat) (p:Plan)
 | mu (i:Nat) (p:Plan)
 | am (i:Nat) (p q:Plan)
structure Env where
 P:Program
 w0:Base
 re:List Nat
 ord:List (Nat × Plan)
 det:Nat → List Value → Option Value
 cuts:List Nat
def aggD:TypeDesc → Bool
 | .struct _=>true
 | .array _ _=>true
 | _=>false
def ldT (P:Program) (T:TypeId):Option (Option Nat):=
 match P.underlying T,P.info? T with
 | some d,some i=>some (bif aggD d then some i.size else none)
 | _,_=>none
def offT (P:Program) (T:TypeId) (f:Nat):Option Nat:=
 match P.underlying T with
 | some (.struct fs)=>
  match fs[f]? with
  | some fd=>match P.info? fd.type with
   | some i=>if i.size = 0 then none else some fd.offset
   | none=>none
  | none=>none
 | _=>none
def zeroT (P:Program) (T:TypeId):Option (List Value):=
 match P.info? T with
 | some i=>i.zero.map fun z=>z.cells.toList
 | none=>none
def slT (P:Program) (T:TypeId):Option (TypeId × Nat):=
 match P.underlying T with
 | some (.slice e)=>match P.info? e with
  | some i=>if i.size = 0 then none else some (e,i.size)
  | none=>none
 | _=>none
def arT (P:Program) (T:TypeId):Option (Nat × Nat × Option Nat):=
 match P.underlying T with
 | some (.array n e)=>match ldT P e,P.info? e with
  | some k,some i=>some (n,i.size,k)
  | _,_=>none
 | _=>none
def fldT (P:Program) (T:TypeId) (f:Nat):Option (Nat × Option Nat):=
 match P.underlying T with
 | some (.struct fs)=>
  match fs[f]? with
  | some fd=>(ldT P fd.type).map fun k=>(fd.offset,k)
  | none=>none
 | _=>none
def placesT (P:Program) (T:TypeId):Option (List (Nat × Nat)):=
 match P.underlying T with
 | some (.struct fs)=>if fs.all (fun f=>(P.info? f.type).isSome) = true then some (fs.toList.map fun f=>(f.offset,P.cellsOf f.type)) else none
 | some (.array n e)=>
  match P.info? e with
  | some i=>some ((List.range n).map fun k=>(k * i.size,i.size))
  | none=>none
 | _=>none
def kdT (P:Program) (T:TypeId):Option Nat:=
 match P.underlying T with
 | some (.int _)=>some 0
 | some .bool=>some 1
 | some (.slice _)=>some 2
 | some (.func _ _ _)=>some 3
 | some (.map _ _)=>some 4
 | some .string=>some 5
 | _=>none
def intT (P:Program) (T:TypeId):Option IntKind:=
 match P.underlying T with
 | some (.int k)=>some k
 | _=>none
def op1 (fr:List SV):Operand → SV
 | .tmp t=>fget fr t
 | .const (.bool t)=>.b t
 | .const c=>.v c
 | .global g=>.v (.pointer (some ⟨g,0,none⟩))
 | .func f=>.v (.func (.func f) #[] #[])
theorem op1_real (bs:Nat → Nat) (fr:List SV) (df:List Deferred) (x:Operand):({ tmps:=rf bs fr,defers:=df }:Act).eval x = (op1 fr x).real bs:=by
 cases x with
 | tmp t=>exact rf_get bs fr t
 | const c=>cases c <;> rfl
 | global g=>rfl
 | func f=>rfl
theorem op1_wf {n:Nat} {fr:List SV} (h:WfFr n fr) (x:Operand):(op1 fr x).wf n:=by
 cases x with
 | tmp t=>exact h.get t
 | const c=>cases c <;> trivial
 | global g=>trivial
 | func f=>trivial
def withV (s:SV) (K:Value → Prop):Prop:=
 match s with
 | .v x=>K x
 | .b t=>K (.bool t)
 | .p _ _=>False
theorem withV_iff {s:SV} {K:Value → Prop} (h:withV s K):∃ x,(∀ bs,s.real bs = x) ∧ K x:=by
 cases s with
 | v x=>exact ⟨x,fun _=>rfl,h⟩
 | b t=>exact ⟨_,fun _=>rfl,h⟩
 | p j o=>exact h.elim
def withVs:List SV → (List Value → Prop) → Prop
 | [],K=>K []
 | s :: l,K=>withV s fun x=>withVs l fun xs=>K (x :: xs)
theorem withVs_iff:∀ {l:List SV} {K:List Value → Prop},withVs l K → ∃ xs,(∀ bs,l.map (SV.real bs) = xs) ∧ K xs
 | [],_,h=>⟨[],fun _=>rfl,h⟩
 | s :: l,K,h=>by
  obtain ⟨x,hx,h⟩:=withV_iff h
  obtain ⟨xs,hxs,h⟩:=withVs_iff h
  exact ⟨x :: xs,fun bs=>by simp [hx,hxs],h⟩
def Rd (w0:Base) (H:List HO) (a:Addr) (v:Value):Prop:=(w0.w.cell? a = some v ∧ ¬ w0.X a.block) ∨ ∃ h ∈ H,∀ w,h.ok w → w.cell? a = some v
theorem Rd.cell {w0:Base} {w:World} {H:List HO} {a:Addr} {v:Value} (h:Rd w0 H a v) (hp:Hp w0 H w):w.cell? a = some v:=by
 rcases h with h | ⟨x,hx,h⟩
 ·rw [World.cell?_of_block (w:=w0.w) (hp.ext.block a.block (World.block_lt_of_cell? w0.w a h.1) h.2)]; exact h.1
 ·exact h w (hp.ok x hx)
theorem Rd.mono {w0:Base} {H H':List HO} {a:Addr} {v:Value} (h:Rd w0 H a v) (hs:∀ x ∈ H,x ∈ H'):Rd w0 H' a v:=by
 rcases h with h | ⟨x,hx,h⟩
 ·exact .inl h
 ·exact .inr ⟨x,hs x hx,h⟩
def Rds (w0:Base) (H:List HO) (a:Addr) (vs:List Value):Prop:=∀ i v,vs[i]? = some v → Rd w0 H (a.add i) v
def LdOb (w0:Base) (H:List HO) (a:Addr) (k:Option Nat) (K:SV → Prop):Prop:=
 match k with
 | none=>∃ v,Rd w0 H a v ∧ K (.v v)
 | some n=>∃ vs,vs.length = n ∧ Rds w0 H a vs ∧ K (.v (.agg vs.toArray))
def boxAt:List Box → Nat → List Value
 | [],_=>[]
 | x :: _,0=>x.2
 | _ :: l,j + 1=>boxAt l j
theorem boxAt_get:∀ (L:List Box) (j:Nat),j < L.length → ∃ T,L[j]? = some (T,boxAt L j)
 | [],j,h=>by simp at h
 | x :: _,0,_=>⟨x.1,rfl⟩
 | _ :: l,j + 1,h=>by simpa [boxAt] using boxAt_get l j (by simpa using h)
def ldBox (cs:List Value) (o:Nat) (k:Option Nat) (K:SV → Prop):Prop:=
 match k with
 | none=>∃ v,cs[o]? = some v ∧ K (.v v)
 | some n=>o + n ≤ cs.length ∧ K (.v (.agg ((cs.drop o).take n).toArray))
def ldS (w0:Base) (L:List Box) (H:List HO) (k:Option (Option Nat)) (s:SV) (K:SV → Prop):Prop:=
 match k,s with
 | some k,.p j o=>j < L.length ∧ ldBox (boxAt L j) o k K
 | some k,.v (.pointer (some a))=>LdOb w0 H a k K
 | _,_=>False
def pickS (c a b:SV) (K:SV → Prop):Prop:=
 match c with
 | .b t=>K (bif t then a else b)
 | .v (.bool t)=>withV a fun x=>withV b fun y=>(∃ p q,x = .bool p ∧ y = .bool q ∧ K (.v (.bool (bif t then p else q))))
 | _=>False
def ncS (s:SV) (K:SV → Prop):Prop:=
 match s with
 | .p j o=>K (.p j o)
 | .v (.pointer (some a))=>K (.v (.pointer (some a)))
 | .v (.func (.func f) x y)=>K (.v (.func (.func f) x y))
 | .v (.func (.yield l) x y)=>K (.v (.func (.yield l) x y))
 | _=>False
def bitS (op:BinOp) (k:IntKind) (x y:Int):Int:=
 match op with
 | .and=>k.wrap (BitVec.ofInt k.bits x &&& BitVec.ofInt k.bits y).toNat
 | .or=>k.wrap (BitVec.ofInt k.bits x ||| BitVec.ofInt k.bits y).toNat
 | .xor=>k.wrap (BitVec.ofInt k.bits x ^^^ BitVec.ofInt k.bits y).toNat
 | .andNot=>k.wrap (BitVec.ofInt k.bits x &&& ~~~BitVec.ofInt k.bits y).toNat
 | _=>0
def binI (op:BinOp) (k:IntKind) (x y:Int) (K:SV → Prop):Prop:=
 match op with
 | .add=>K (.v (.int k (k.wrap (x + y))))
 | .sub=>K (.v (.int k (k.wrap (x - y))))
 | .mul=>K (.v (.int k (k.wrap (x * y))))
 | .quo=>y ≠ 0 ∧ K (.v (.int k (k.wrap (x.tdiv y))))
 | .rem=>y ≠ 0 ∧ K (.v (.int k (x.tmod y)))
 | .shl=>0 ≤ y ∧ K (.v (.int k (k.wrap (x * 2 ^ (min y.toNat k.bits)))))
 | .shr=>0 ≤ y ∧ K (.v (.int k (x.fdiv (2 ^ (min y.toNat k.bits)))))
 | .and=>K (.v (.int k (bitS .and k x y)))
 | .or=>K (.v (.int k (bitS .or k x y)))
 | .xor=>K (.v (.int k (bitS .xor k x y)))
 | .andNot=>K (.v (.int k (bitS .andNot k x y)))
 | .eql=>K (.v (.bool (x == y)))
 | .neq=>K (.v (.bool (x != y)))
 | .lss=>K (.v (.bool (decide (x < y))))
 | .leq=>K (.v (.bool (decide (x ≤ y))))
 | .gtr=>K (.v (.bool (decide (x > y))))
 | .geq=>K (.v (.bool (decide (x ≥ y))))
def EqAgg (P:Program) (T:TypeId) (xs ys:List Value) (r:Bool):Prop:=
 ∀ w,(Op.equal T (.agg xs.toArray) (.agg ys.toArray)).run P w = .ok r w ∧ (eqGuard .eql T (.tmp 0) (.tmp 0) (.agg xs.toArray) (.agg ys.toArray)).run P w = .ok () w
def sameK (op:BinOp) (k k':IntKind):Prop:=
 match op with
 | .shl=>True
 | .shr=>True
 | _=>k = k'
def binS (P:Program) (op:BinOp) (T:TypeId) (x y:Value) (K:SV → Prop):Prop:=
 match x,y with
 | .int k a,.int k' b=>sameK op k k' ∧ binI op k a b K
 | .bool a,.bool b=>kdT P T = some 1 ∧ (match op with
  | .eql=>K (.v (.bool (a == b)))
  | .neq=>K (.v (.bool (!(a == b))))
  | _=>False)
 | .slice a _ _,.slice none _ _=>kdT P T = some 2 ∧ (match op with
  | .eql=>K (.v (.bool a.isNone))
  | .neq=>K (.v (.bool (!a.isNone)))
  | _=>False)
 | .agg xs,.agg ys=>∃ r,EqAgg P T xs.toList ys.toList r ∧ (match op with
  | .eql=>K (.v (.bool r))
  | .neq=>K (.v (.bool (!r)))
  | _=>False)
 | _,_=>False
def unS (op:UnOp) (s:SV) (K:SV → Prop):Prop:=
 match op,s with
 | .not,.b t=>K (.b !t)
 | .not,.v (.bool t)=>K (.v (.bool !t))
 | .neg,.v (.int k n)=>K (.v (.int k (k.wrap (0 - n))))
 | _,_=>False
def faS (k:Option Nat) (s:SV) (K:SV → Prop):Prop:=
 match k,s with
 | some n,.p j o=>K (.p j (o + n))
 | some n,.v (.pointer (some a))=>K (.v (.pointer (some (a.add n))))
 | _,_=>False
def partS (cs:List Value) (o:Nat) (k:Option Nat) (K:SV → Prop):Prop:=
 match k with
 | none=>∃ v,cs[o]? = some v ∧ K (.v v)
 | some n=>K (.v (.agg ((cs.drop o).take n).toArray))
def fldS (k:Option (Nat × Option Nat)) (x:Value) (K:SV → Prop):Prop:=
 match k,x with
 | some (o,k),.agg cs=>partS cs.toList o k K
 | _,_=>False
def ixS (k:Option (TypeId × Nat)) (ar:Option (Nat × Nat × Option Nat)) (x:SV) (i:Value) (K:SV → Prop):Prop:=
 match i with
 | .int _ i=>
  match k,ar,x with
  | some (_,sz),_,.v (.slice a len _)=>0 ≤ i ∧ i < len ∧ ∃ ad,a = some ad ∧ K (.v (.pointer (some (ad.add (i.toNat * sz)))))
  | none,some (n,sz,_),.p j o=>0 ≤ i ∧ i < n ∧ K (.p j (o + i.toNat * sz))
  | none,some (n,sz,_),.v (.pointer (some a))=>0 ≤ i ∧ i < n ∧ K (.v (.pointer (some (a.add (i.toNat * sz)))))
  | _,_,_=>False
 | _=>False
def idxS (ar:Option (Nat × Nat × Option Nat)) (x i:Value) (K:SV → Prop):Prop:=
 match ar,x,i with
 | some (n,sz,k),.agg cs,.int _ i=>0 ≤ i ∧ i < n ∧ partS cs.toList (i.toNat * sz) k K
 | _,_,_=>False
def extS (x:Value) (i:Nat) (K:SV → Prop):Prop:=
 match x with
 | .tuple vs=>∃ v,vs.toList[i]? = some v ∧ K (.v v)
 | _=>False
def fillS (pl:List (Nat × Nat)) (cs:List Value):List (Nat × Value) → Option (List Value)
 | []=>some cs
 | (i,v) :: r=>
  match pl[i]? with
  | some (o,n)=>if v.cells.toList.length = n ∧ o + n ≤ cs.length then fillS pl (cs.take o ++ v.cells.toList ++ cs.drop (o + n)) r else none
  | none=>none
def optV (s:Option SV) (K:Option Value → Prop):Prop:=
 match s with
 | some s=>withV s fun x=>K (some x)
 | none=>K none
def bndS (x:Option Value) (d:Nat) (y:Nat) (K:Nat → Prop):Prop:=
 match x with
 | some (.int _ i)=>0 ≤ i ∧ i ≤ y ∧ K i.toNat
 | none=>K d
 | _=>False
def slS (k:Option (TypeId × Nat)) (x:Value) (lo hi mx:Option Value) (K:SV → Prop):Prop:=
 match k,x with
 | some (_,sz),.slice a len cap=>
  bndS mx cap cap fun m=>(mx.isSome = true → hi.isSome = true) ∧ bndS hi len m fun h=>bndS lo 0 h fun l=>K (.v (.slice (if m = l then a else a.map (·.add (l * sz))) (h - l) (m - l)))
 | _,_=>False
def slQ (k:Option (TypeId × Nat)) (ar:Option (Nat × Nat × Option Nat)) (x:Value) (lo hi mx:Option Value) (K:SV → Prop):Prop:=
 match x with
 | .pointer (some a)=>match ar with
  | some (n,_,_)=>lo = none ∧ hi = none ∧ mx = none ∧ K (.v (.slice (some (if n = 0 then a else a.add 0)) n n))
  | none=>False
 | x=>slS k x lo hi mx K
def lenS (x:Value) (K:SV → Prop):Prop:=
 match x with
 | .slice _ n _=>K (.v (.int .i64 n))
 | _=>False
def capS (x:Value) (K:SV → Prop):Prop:=
 match x with
 | .slice _ _ n=>K (.v (.int .i64 n))
 | _=>False
def mmS (mx:Bool) (x y:Value) (K:SV → Prop):Prop:=
 match x,y with
 | .int k a,.int _ b=>K (.v (.int k (bif mx then max a b else min a b)))
 | _,_=>False
def bltS (P:Program) (g:Operand → SV) (c:Callee) (args:List Operand) (ts:List TypeId) (K:SV → Prop):Prop:=
 match c,args,ts with
 | .builtin .len,[x],[T]=>(slT P T).isSome = true ∧ withV (g x) fun x=>lenS x K
 | .builtin .cap,[x],[T]=>(slT P T).isSome = true ∧ withV (g x) fun x=>capS x K
 | .builtin .max,[x,y],_=>withV (g x) fun x=>withV (g y) fun y=>mmS true x y K
 | .builtin .min,[x,y],_=>withV (g x) fun x=>withV (g y) fun y=>mmS false x y K
 | _,_,_=>False
def freeOp (E:Env) (fr:List SV) (L:List Box) (H:List HO) (op:Op) (K:SV → Prop):Prop:=
 match op with
 | .move x=>K (op1 fr x)
 | .assign x=>K (op1 fr x)
 | .pick c a b=>pickS (op1 fr c) (op1 fr a) (op1 fr b) K
 | .load T x=>ldS E.w0 L H (ldT E.P T) (op1 fr x) K
 | .nilCheck x=>ncS (op1 fr x) K
 | .binOp op T x y _=>withV (op1 fr x) fun x=>withV (op1 fr y) fun y=>binS E.P op T x y K
 | .unOp op _ x=>unS op (op1 fr x) K
 | .convert s d x=>withV (op1 fr x) fun x=>(∃ k k' n,intT E.P s = some k ∧ intT E.P d = some k' ∧ x = .int k n ∧ K (.v (.int k' (k'.wrap n))))
 | .makeFunc fn xs ys=>withVs (xs.toList.map (op1 fr)) fun xs=>withVs (ys.toList.map (op1 fr)) fun ys=>K (.v (.func fn xs.toArray ys.toArray))
 | .fieldAddr T x f=>faS (offT E.P T f) (op1 fr x) K
 | .field T x f=>withV (op1 fr x) fun x=>fldS (fldT E.P T f) x K
 | .indexAddr T x i=>withV (op1 fr i) fun i=>ixS (slT E.P T) (arT E.P T) (op1 fr x) i K
 | .index T x i=>withV (op1 fr x) fun x=>withV (op1 fr i) fun i=>idxS (arT E.P T) x i K
 | .extract x i=>withV (op1 fr x) fun x=>extS x i K
 | .build T ps=>withVs (ps.toList.map fun p=>op1 fr p.2) fun xs=>∃ pl z cs,placesT E.P T = some pl ∧ zeroT E.P T = some z ∧ fillS pl z ((ps.toList.map (·.1)).zip xs) = some cs ∧ K (.v (.agg cs.toArray))
 | .slice T x lo hi mx=>withV (op1 fr x) fun x=>optV (lo.map (op1 fr)) fun lo=>optV (hi.map (op1 fr)) fun hi=>optV (mx.map (op1 fr)) fun mx=>slQ (slT E.P T) (arT E.P T) x lo hi mx K
 | .call c=>bltS E.P (op1 fr) c.callee c.args.toList c.argTypes.toList K
 | _=>False
end Go.SX

namespace Go.SX
open Go.RowKit
theorem run_v {P:Program} {w:World} {s:Sem Value} {v:Value} (h:s.run P w = .ok v w):((do pure (Next.value (← s))):Sem Next).run P w = .ok (.value v) w:=by
 simp [h]
theorem ldT_some {P:Program} {T:TypeId} {k:Option Nat} (h:ldT P T = some k):∃ d i,P.underlying T = some d ∧ P.info? T = some i ∧
  ((k = none ∧ aggD d = false) ∨ (k = some i.size ∧ aggD d = true)):=by
 unfold ldT at h
 split at h
 ·rename_i d i hd hi
  refine ⟨d,i,hd,hi,?_⟩
  simp only [Option.some.injEq] at h
  subst h
  cases hg:aggD d <;> simp
 ·cases h
theorem isAgg_false {P:Program} {T:TypeId} {d:TypeDesc} {w:World} (hd:P.underlying T = some d) (h:aggD d = false):(isAgg T).run P w = .ok false w:=by
 simp only [isAgg,Sem.run_bind,run_underlying hd,Result.andThen_ok]
 cases d <;> simp_all [aggD]
theorem isAgg_true {P:Program} {T:TypeId} {d:TypeDesc} {w:World} (hd:P.underlying T = some d) (h:aggD d = true):(isAgg T).run P w = .ok true w:=by
 simp only [isAgg,Sem.run_bind,run_underlying hd,Result.andThen_ok]
 cases d <;> simp_all [aggD]
theorem run_size {P:Program} {T:TypeId} {i:TypeInfo} {w:World} (h:P.info? T = some i):(sizeOf T).run P w = .ok i.size w:=by
 simp [sizeOf,typeInfo,h]
theorem loadVar_one {P:Program} {T:TypeId} {w:World} {a:Addr} {v:Value} (h:ldT P T = some none) (hc:w.cell? a = some v):(loadVar T a).run P w = .ok v w:=by
 obtain ⟨d,i,hd,hi,hk⟩:=ldT_some h
 rcases hk with ⟨_,hk⟩ | ⟨hk,_⟩
 ·simp only [loadVar,Sem.run_bind,isAgg_false hd hk,Result.andThen_ok]
  simp [hc]
 ·cases hk
theorem loadVar_many {P:Program} {T:TypeId} {w:World} {a:Addr} {n:Nat} {vs:List Value} (h:ldT P T = some (some n)) (hl:vs.length = n) (hc:∀ j v,vs[j]? = some v → w.cell? (a.add j) = some v):
  (loadVar T a).run P w = .ok (.agg vs.toArray) w:=by
 obtain ⟨d,i,hd,hi,hk⟩:=ldT_some h
 rcases hk with ⟨hk,_⟩ | ⟨hk,hk'⟩
 ·cases hk
 ·cases hk
  simp only [loadVar,Sem.run_bind,isAgg_true hd hk',Result.andThen_ok,if_true,run_size hi]
  rw [← hl,run_loadCells_list (P:=P) w a vs hc]
  simp
theorem add_block (b off n:Nat):(⟨b,off,none⟩:Addr).add n = ⟨b,off + n,none⟩:=by
 unfold Addr.add
 split <;> simp_all
theorem cell_of_cells {w:World} {b:Nat} {cs:Array Value} {T:TypeId} {f:Nat × Nat} (h:w.heap[b]? = some (.cells cs T f)) (o:Nat):w.cell? ⟨b,o,none⟩ = cs[o]?:=by
 simp [World.cell?,h]
theorem ldS_sound {P:Program} {w0:Base} {L:List Box} {H:List HO} {T:TypeId} {s:SV} {K:SV → Prop} (h:ldS w0 L H (ldT P T) s K):
  ∃ r,K r ∧ (∀ n,r.wf n) ∧ ∀ bs ks L' H' w,Rel w0 bs ks L' H' w → L <+: L' → (∀ x ∈ H,x ∈ H') → (Instr.loadAt T (s.real bs)).run P w = .ok (r.real bs) w:=by
 unfold ldS at h
 split at h
 ·rename_i k j o hk
  obtain ⟨hj,h⟩:=h
  obtain ⟨T',hT⟩:=boxAt_get L j hj
  have hblk:∀ bs ks L' H' w,Rel w0 bs ks L' H' w → L <+: L' → w.heap[bs j]? = some (.cells (boxAt L j).toArray T' (0,0)):=by
   intro bs ks L' H' w r hp
   refine r.box j T' _ ?_
   obtain ⟨m,rfl⟩:=hp
   rw [List.getElem?_append_left hj]
   exact hT
  unfold ldBox at h
  split at h
  ·obtain ⟨v,hv,hK⟩:=h
   refine ⟨.v v,hK,fun _=>trivial,fun bs ks L' H' w r hp _=>?_⟩
   have hb:=hblk bs ks L' H' w r hp
   simp only [Instr.loadAt,Instr.sureAddr,SV.real,Sem.run_bind,Sem.run_pure,Result.andThen_ok]
   exact loadVar_one hk (by rw [cell_of_cells hb]; simpa using hv)
  ·rename_i n
   obtain ⟨hle,hK⟩:=h
   refine ⟨_,hK,fun _=>trivial,fun bs ks L' H' w r hp _=>?_⟩
   have hb:=hblk bs ks L' H' w r hp
   simp only [Instr.loadAt,Instr.sureAddr,SV.real,Sem.run_bind,Sem.run_pure,Result.andThen_ok]
   refine loadVar_many hk (by simp; omega) fun i v hi=>?_
   rw [add_block,cell_of_cells hb]
   rw [List.getElem?_take] at hi
   split at hi
   ·simpa using hi
   ·cases hi
 ·rename_i k a hk
  unfold LdOb at h
  split at h
  ·obtain ⟨v,hv,hK⟩:=h
   refine ⟨.v v,hK,fun _=>trivial,fun bs ks L' H' w r _ hs=>?_⟩
   simp only [Instr.loadAt,Instr.sureAddr,SV.real,Sem.run_bind,Sem.run_pure,Result.andThen_ok]
   exact loadVar_one hk ((hv.mono hs).cell r.hp)
  ·rename_i n
   obtain ⟨vs,hl,hv,hK⟩:=h
   refine ⟨_,hK,fun _=>trivial,fun bs ks L' H' w r _ hs=>?_⟩
   simp only [Instr.loadAt,Instr.sureAddr,SV.real,Sem.run_bind,Sem.run_pure,Result.andThen_ok]
   exact loadVar_many hk hl fun i v hi=>((hv i v hi).mono hs).cell r.hp
 ·exact h.elim
theorem binI_sound {P:Program} {op:BinOp} {k k':IntKind} {x y:Int} {K:SV → Prop} (hk:sameK op k k') (h:binI op k x y K):
  ∃ v,K (.v v) ∧ ∀ T w,(binOp op T (.int k x) (.int k' y)).run P w = .ok v w:=by
 cases op <;> simp only [binI] at h <;> simp only [sameK] at hk <;> try subst hk
 case add=>exact ⟨_,h,fun T w=>by simp [binOp,Op.intArith]⟩
 case sub=>exact ⟨_,h,fun T w=>by simp [binOp,Op.intArith]⟩
 case mul=>exact ⟨_,h,fun T w=>by simp [binOp,Op.intArith]⟩
 case quo=>exact ⟨_,h.2,fun T w=>by simp [binOp,Op.intDiv,h.1]⟩
 case rem=>exact ⟨_,h.2,fun T w=>by simp [binOp,Op.intDiv,h.1]⟩
 case and=>exact ⟨_,h,fun T w=>by simp [binOp,Op.intBits,bitS]⟩
 case or=>exact ⟨_,h,fun T w=>by simp [binOp,Op.intBits,bitS]⟩
 case xor=>exact ⟨_,h,fun T w=>by simp [binOp,Op.intBits,bitS]⟩
 case andNot=>exact ⟨_,h,fun T w=>by simp [binOp,Op.intBits,bitS]⟩
 case shl=>exact ⟨_,h.2,fun T w=>by have:=h.1; simp [binOp,Op.shift,Int.not_lt.2 this]⟩
 case shr=>exact ⟨_,h.2,fun T w=>by have:=h.1; simp [binOp,Op.shift,Int.not_lt.2 this]⟩
 case eql=>exact ⟨_,h,fun T w=>by simp [binOp,Op.intCmp]⟩
 case neq=>exact ⟨_,h,fun T w=>by simp [binOp,Op.intCmp]⟩
 case lss=>exact ⟨_,h,fun T w=>by simp [binOp,Op.intCmp]⟩
 case leq=>exact ⟨_,h,fun T w=>by simp [binOp,Op.intCmp]⟩
 case gtr=>exact ⟨_,h,fun T w=>by simp [binOp,Op.intCmp]⟩
 case geq=>exact ⟨_,h,fun T w=>by simp [binOp,Op.intCmp]⟩
theorem kdT_bool {P:Program} {T:TypeId} (h:kdT P T = some 1):P.underlying T = some .bool:=by
 unfold kdT at h
 cases hd:P.underlying T with
 | none=>simp [hd] at h
 | some d=>cases d <;> simp [hd] at h ⊢
theorem kdT_slice {P:Program} {T:TypeId} (h:kdT P T = some 2):∃ e,P.underlying T = some (.slice e):=by
 unfold kdT at h
 cases hd:P.underlying T with
 | none=>simp [hd] at h
 | some d=>cases d <;> simp [hd] at h ⊢
theorem guard_plain {P:Program} {op:BinOp} {T:TypeId} {x y:Operand} {a b:Value} {w:World} (h:a ≠ .nilIface ∧ ∀ c,a ≠ .agg c):(eqGuard op T x y a b).run P w = .ok () w:=by
 unfold eqGuard
 cases a <;> (cases op <;> simp_all)
theorem equal_bool {P:Program} {T:TypeId} (hd:P.underlying T = some .bool) (a b:Bool) (w:World):(Op.equal T (.bool a) (.bool b)).run P w = .ok (a == b) w:=by
 have e:Op.maxDepth = 9999 + 1:=rfl
 unfold Op.equal
 rw [e]
 unfold Op.equalIn
 simp only [Sem.run_bind,run_underlying hd,Result.andThen_ok]
 rfl
theorem equal_slice {P:Program} {T:TypeId} {E:TypeId} (hd:P.underlying T = some (.slice E)) (a:Option Addr) (n m n' m':Nat) (w:World):(Op.equal T (.slice a n m) (.slice none n' m')).run P w = .ok a.isNone w:=by
 have e:Op.maxDepth = 9999 + 1:=rfl
 unfold Op.equal
 rw [e]
 unfold Op.equalIn
 simp only [Sem.run_bind,run_underlying hd,Result.andThen_ok]
 cases a <;> rfl
theorem run_eql {P:Program} {T:TypeId} {x y:Value} {r:Bool} {w:World} (h:(Op.equal T x y).run P w = .ok r w):((do pure (Value.bool (← Op.equal T x y))):Sem Value).run P w = .ok (.bool r) w:=by
 simp only [Sem.run_bind,h,Result.andThen_ok,Sem.run_pure]
theorem run_neq {P:Program} {T:TypeId} {x y:Value} {r:Bool} {w:World} (h:(Op.equal T x y).run P w = .ok r w):((do pure (Value.bool (!(← Op.equal T x y)))):Sem Value).run P w = .ok (.bool !r) w:=by
 simp only [Sem.run_bind,h,Result.andThen_ok,Sem.run_pure]
theorem run_guard_then {P:Program} {w:World} {g:Sem Unit} {s:Sem Value} {v:Value} (hg:g.run P w = .ok () w) (h:s.run P w = .ok v w):((do g; s):Sem Value).run P w = .ok v w:=by
 simp only [Sem.run_bind,hg,Result.andThen_ok,h]
theorem binS_sound {P:Program} {op:BinOp} {T:TypeId} {x y:Value} {K:SV → Prop} (h:binS P op T x y K) (X Y:Operand):
  ∃ v,K (.v v) ∧ ∀ w,((do eqGuard op T X Y x y; binOp op T x y):Sem Value).run P w = .ok v w:=by
 unfold binS at h
 split at h
 ·rename_i k a k' b
  obtain ⟨hk,h⟩:=h
  obtain ⟨v,hv,hr⟩:=binI_sound (P:=P) hk h
  exact ⟨v,hv,fun w=>run_guard_then (guard_plain ⟨by simp,by simp⟩) (hr T w)⟩
 ·rename_i a b
  obtain ⟨hk,h⟩:=h
  have hd:=kdT_bool hk
  cases op <;> simp only [] at h <;> try exact h.elim
  ·exact ⟨_,h,fun w=>run_guard_then (guard_plain ⟨by simp,by simp⟩) (run_eql (equal_bool hd a b w))⟩
  ·exact ⟨_,h,fun w=>run_guard_then (guard_plain ⟨by simp,by simp⟩) (run_neq (equal_bool hd a b w))⟩
 ·rename_i a n m n' m'
  obtain ⟨hk,h⟩:=h
  obtain ⟨e,hd⟩:=kdT_slice hk
  cases op <;> simp only [] at h <;> try exact h.elim
  ·exact ⟨_,h,fun w=>run_guard_then (guard_plain ⟨by simp,by simp⟩) (run_eql (equal_slice hd a n m n' m' w))⟩
  ·exact ⟨_,h,fun w=>run_guard_then (guard_plain ⟨by simp,by simp⟩) (run_neq (equal_slice hd a n m n' m' w))⟩
 ·rename_i xs ys
  obtain ⟨r,he,h⟩:=h
  have hg:∀ op' w,op' = BinOp.eql ∨ op' = BinOp.neq → (eqGuard op' T X Y (.agg xs) (.agg ys)).run P w = .ok () w:=by
   intro op' w ho
   have:=(he w).2
   simp only [Array.toArray_toList] at this
   rcases ho with rfl | rfl <;> simpa [eqGuard] using this
  have hr:∀ w,(Op.equal T (.agg xs) (.agg ys)).run P w = .ok r w:=fun w=>by simpa using (he w).1
  cases op <;> simp only [] at h <;> try exact h.elim
  ·exact ⟨_,h,fun w=>run_guard_then (hg .eql w (.inl rfl)) (run_eql (hr w))⟩
  ·exact ⟨_,h,fun w=>run_guard_then (hg .neq w (.inr rfl)) (run_neq (hr w))⟩
 ·exact h.elim
theorem offT_some {P:Program} {T:TypeId} {f n:Nat} (h:offT P T f = some n):∃ fs fd i,P.underlying T = some (.struct fs) ∧ fs[f]? = some fd ∧ P.info? fd.type = some i ∧ i.size ≠ 0 ∧ fd.offset = n:=by
 unfold offT at h
 split at h
 ·rename_i fs hu
  split at h
  ·rename_i fd hf
   split at h
   ·rename_i i hi
    split at h
    ·cases h
    ·rename_i hz
     exact ⟨fs,fd,i,hu,hf,hi,hz,by simpa using h⟩
   ·cases h
  ·cases h
 ·cases h
theorem fieldAt_run {P:Program} {T:TypeId} {f n:Nat} (h:offT P T f = some n) (a:Addr) (w:World):(Instr.fieldAt T (.pointer (some a)) f).run P w = .ok (.pointer (some (a.add n))) w:=by
 obtain ⟨fs,fd,i,hu,hf,hi,hz,rfl⟩:=offT_some h
 simp [Instr.fieldAt,run_underlying hu,hf,Instr.sureAddr,fieldPlace,run_size hi,hz]
theorem slT_some {P:Program} {T:TypeId} {e n:Nat} (h:slT P T = some (e,n)):∃ i,P.underlying T = some (.slice e) ∧ P.info? e = some i ∧ i.size = n ∧ n ≠ 0:=by
 unfold slT at h
 split at h
 ·rename_i e' hu
  split at h
  ·rename_i i hi
   split at h
   ·cases h
   ·rename_i hz
    simp at h
    obtain ⟨rfl,rfl⟩:=h
    exact ⟨i,hu,hi,rfl,hz⟩
  ·cases h
 ·cases h
theorem arT_some {P:Program} {T:TypeId} {n sz:Nat} {k:Option Nat} (h:arT P T = some (n,sz,k)):∃ e i,P.underlying T = some (.array n e) ∧ P.info? e = some i ∧ i.size = sz ∧ ldT P e = some k:=by
 unfold arT at h
 split at h
 ·rename_i n' e hu
  split at h
  ·rename_i k' i hk hi
   simp at h
   obtain ⟨rfl,rfl,rfl⟩:=h
   exact ⟨e,i,hu,hi,rfl,hk⟩
  ·cases h
 ·cases h
theorem part_run {P:Program} {e:TypeId} {k:Option Nat} (hk:ldT P e = some k) {cs:Array Value} {o:Nat} {K:SV → Prop} (h:partS cs.toList o k K):
  ∃ v,K (.v v) ∧ ∀ w,(part e cs o).run P w = .ok v w:=by
 obtain ⟨d,i,hd,hi,hk'⟩:=ldT_some hk
 unfold partS at h
 split at h
 ·obtain ⟨v,hv,hK⟩:=h
  rcases hk' with ⟨_,hk'⟩ | ⟨hk',_⟩
  ·refine ⟨v,hK,fun w=>?_⟩
   simp only [part,Sem.run_bind,isAgg_false hd hk',Result.andThen_ok]
   have:cs[o]? = some v:=by simpa using hv
   simp [this]
  ·cases hk'
 ·rename_i n
  rcases hk' with ⟨hk',_⟩ | ⟨hk',hk''⟩
  ·cases hk'
  ·cases hk'
   refine ⟨_,h,fun w=>?_⟩
   simp only [part,Sem.run_bind,isAgg_true hd hk'',Result.andThen_ok,if_true,run_size hi,Sem.run_pure]
   congr 2
   apply Array.ext'
   simp [List.extract_eq_take_drop]
theorem fldT_some {P:Program} {T:TypeId} {f o:Nat} {k:Option Nat} (h:fldT P T f = some (o,k)):∃ fs fd,P.underlying T = some (.struct fs) ∧ fs[f]? = some fd ∧ ldT P fd.type = some k ∧ fd.offset = o:=by
 unfold fldT at h
 split at h
 ·rename_i fs hu
  split at h
  ·rename_i fd hf
   cases hk:ldT P fd.type with
   | none=>simp [hk] at h
   | some k'=>
    simp [hk] at h
    obtain ⟨rfl,rfl⟩:=h
    exact ⟨fs,fd,hu,hf,hk,rfl⟩
  ·cases h
 ·cases h
theorem ixS_sound {P:Program} {T:TypeId} {x:SV} {i:Value} {K:SV → Prop} (h:ixS (slT P T) (arT P T) x i K):
  ∃ s,K s ∧ (∀ n,x.wf n → s.wf n) ∧ ∀ bs w,(Instr.indexAt T (x.real bs) i).run P w = .ok (s.real bs) w:=by
 unfold ixS at h
 split at h
 ·rename_i ki n
  split at h
  ·rename_i e sz a len cap hs
   obtain ⟨h0,hl,ad,rfl,hK⟩:=h
   obtain ⟨i,hu,hi,rfl,hz⟩:=slT_some hs
   refine ⟨_,hK,fun _ _=>trivial,fun bs w=>?_⟩
   simp [Instr.indexAt,asIntOf,SV.real,run_underlying hu,h0,hl,run_size hi]
  ·rename_i len sz k j o hs ha
   obtain ⟨h0,hl,hK⟩:=h
   obtain ⟨e,i,hu,hi,rfl,_⟩:=arT_some ha
   refine ⟨_,hK,fun _ hw=>hw,fun bs w=>?_⟩
   simp [Instr.indexAt,asIntOf,SV.real,run_underlying hu,h0,hl,run_size hi,Instr.sureAddr,add_block]
  ·rename_i len sz k a hs ha
   obtain ⟨h0,hl,hK⟩:=h
   obtain ⟨e,i,hu,hi,rfl,_⟩:=arT_some ha
   refine ⟨_,hK,fun _ _=>trivial,fun bs w=>?_⟩
   simp [Instr.indexAt,asIntOf,SV.real,run_underlying hu,h0,hl,run_size hi,Instr.sureAddr]
  ·exact h.elim
 ·exact h.elim
theorem idxS_sound {P:Program} {T:TypeId} {x i:Value} {K:SV → Prop} (h:idxS (arT P T) x i K):∃ v,K (.v v) ∧ ∀ w,(Instr.index T x i).run P w = .ok v w:=by
 unfold idxS at h
 split at h
 ·rename_i len sz k cs ki n ha
  obtain ⟨h0,hl,h⟩:=h
  obtain ⟨e,i,hu,hi,rfl,hk⟩:=arT_some ha
  obtain ⟨v,hv,hr⟩:=part_run hk h
  exact ⟨v,hv,fun w=>by simp [Instr.index,asIntOf,run_underlying hu,h0,hl,run_size hi,hr]⟩
 ·exact h.elim
theorem fillS_fill (pl:List (Nat × Nat)):∀ (ps:List (Nat × Value)) (cs r:List Value),fillS pl cs ps = some r → Instr.fill (pl.toArray[·]?) cs.toArray ps = some r.toArray
 | [],cs,r,h=>by
  simp only [fillS,Option.some.injEq] at h
  subst h
  rfl
 | (i,v) :: ps,cs,r,h=>by
  simp only [fillS] at h
  cases hp:pl[i]? with
  | none=>simp [hp] at h
  | some x=>
   obtain ⟨o,n⟩:=x
   simp only [hp] at h
   split at h
   ·rename_i hc
    obtain ⟨hl,hle⟩:=hc
    have ih:=fillS_fill pl ps _ r h
    have hp':pl.toArray[i]? = some (o,n):=by simpa using hp
    have hsz:v.cells.size = n:=by simpa using hl
    simp only [Instr.fill,hp',hsz,List.size_toArray]
    have e:(v.cells.zipIdx.foldl (fun cs (x:Value × Nat)=>cs.setIfInBounds (o + x.2) x.1) cs.toArray) = (cs.take o ++ v.cells.toList ++ cs.drop (o + n)).toArray:=by
     have key:∀ (m k:Nat) (xs:List Value) (cur:List Value),xs.length = m → o + k + m ≤ cur.length →
       (xs.zipIdx k).foldl (fun cs (x:Value × Nat)=>cs.setIfInBounds (o + x.2) x.1) cur.toArray = (cur.take (o + k) ++ xs ++ cur.drop (o + k + m)).toArray:=by
      intro m
      induction m with
      | zero=>
       intro k xs cur hx _
       obtain rfl:=List.eq_nil_of_length_eq_zero hx
       simp
      | succ m ih=>
       intro k xs cur hx hle
       cases xs with
       | nil=>simp at hx
       | cons y ys=>
        simp only [List.zipIdx_cons,List.foldl_cons,List.setIfInBounds_toArray]
        rw [ih (k + 1) ys _ (by simpa using hx) (by simp; omega)]
        congr 1
        have hlt:o + k < cur.length:=by omega
        rw [List.take_set,List.drop_set_of_lt (by omega)]
        rw [show o + (k + 1) = o + k + 1 by omega]
        rw [List.take_succ_eq_append_getElem (by simpa using hlt),List.set_append_right _ _ (by simp; omega)]
        simp [Nat.min_eq_left (by omega:o + k ≤ cur.length)]
        omega
     have:=key n 0 v.cells.toList cs hl (by omega)
     simp only [Nat.add_zero] at this
     rw [← this,← Array.toList_zipIdx,Array.foldl_toList]
    rw [e]
    have hno:¬ (n ≠ n ∨ o + n > cs.length):=by omega
    simpa [hno,hle] using ih
   ·cases h
theorem bndS_sound {P:Program} {x:Option Value} {d y:Nat} {K:Nat → Prop} (h:bndS x d y K):∃ n,K n ∧ (x = none → n = d) ∧
  ∀ c v w,x = some v → (Instr.sliceBound v y c).run P w = .ok n w:=by
 unfold bndS at h
 split at h
 ·rename_i k i
  obtain ⟨h0,h1,hK⟩:=h
  exact ⟨_,hK,fun e=>by simp at e,fun c v w e=>by
   simp only [Option.some.injEq] at e
   subst e
   simp [Instr.sliceBound,asIntOf,h0,h1]⟩
 ·exact ⟨_,h,fun _=>rfl,fun c v w e=>by simp at e⟩
 ·exact h.elim
theorem slS_sound {P:Program} {T:TypeId} {x:Value} {lo hi mx:Option Value} {K:SV → Prop} (h:slS (slT P T) x lo hi mx K):
  ∃ v,K (.v v) ∧ ∀ w,(Instr.sliceAt T x lo hi mx).run P w = .ok v w:=by
 unfold slS at h
 split at h
 ·rename_i e sz a len cap hs
  obtain ⟨i,hu,hi',rfl,hz⟩:=slT_some hs
  obtain ⟨m,h,hm0,hm1⟩:=bndS_sound (P:=P) h
  obtain ⟨himp,h⟩:=h
  obtain ⟨hh,h,hh0,hh1⟩:=bndS_sound (P:=P) h
  obtain ⟨l,hK,hl0,hl1⟩:=bndS_sound (P:=P) h
  refine ⟨_,hK,fun w=>?_⟩
  simp only [Instr.sliceAt,Instr.slice,Sem.run_bind,run_underlying hu,Result.andThen_ok,Instr.sliceBounds]
  cases mx with
  | none=>
   obtain rfl:=hm0 rfl
   cases hi with
   | none=>
    obtain rfl:=hh0 rfl
    cases lo with
    | none=>obtain rfl:=hl0 rfl; simp [run_size hi']
    | some lv=>simp [run_size hi',hl1 _ lv w rfl]
   | some hv=>
    cases lo with
    | none=>obtain rfl:=hl0 rfl; simp [run_size hi',hh1 _ hv w rfl]
    | some lv=>simp [run_size hi',hl1 _ lv w rfl,hh1 _ hv w rfl]
  | some mv=>
   cases hi with
   | none=>simp at himp
   | some hv=>
    cases lo with
    | none=>obtain rfl:=hl0 rfl; simp [run_size hi',hh1 _ hv w rfl,hm1 _ mv w rfl]
    | some lv=>simp [run_size hi',hl1 _ lv w rfl,hh1 _ hv w rfl,hm1 _ mv w rfl]
 ·exact h.elim
theorem slQ_sound {P:Program} {T:TypeId} {x:Value} {lo hi mx:Option Value} {K:SV → Prop} (h:slQ (slT P T) (arT P T) x lo hi mx K):
  ∃ v,K (.v v) ∧ ∀ w,(Instr.sliceAt T x lo hi mx).run P w = .ok v w:=by
 unfold slQ at h
 split at h
 ·rename_i a
  split at h
  ·rename_i n sz k hk
   obtain ⟨rfl,rfl,rfl,hK⟩:=h
   obtain ⟨e,i,hu,hi,hsz,hld⟩:=arT_some hk
   refine ⟨_,hK,fun w=>?_⟩
   simp [Instr.sliceAt,run_underlying hu,Instr.sliceBounds,Instr.sureAddr,run_size hi]
  ·exact h.elim
 ·exact slS_sound h
theorem optV_iff {s:Option SV} {K:Option Value → Prop} (h:optV s K):∃ x,(∀ bs,s.map (SV.real bs) = x) ∧ K x:=by
 cases s with
 | none=>exact ⟨none,fun _=>rfl,h⟩
 | some s=>
  obtain ⟨x,hx,h⟩:=withV_iff h
  exact ⟨some x,fun bs=>by simp [hx],h⟩
theorem fillS_fill' {pl:List (Nat × Nat)} {pf:Nat → Option (Nat × Nat)} (hpf:∀ (i:Nat) x,pl[i]? = some x → pf i = some x):∀ (ps:List (Nat × Value)) (cs r:List Value),fillS pl cs ps = some r → Instr.fill pf cs.toArray ps = some r.toArray
 | [],cs,r,h=>by
  simp only [fillS,Option.some.injEq] at h
  subst h
  rfl
 | (i,v) :: ps,cs,r,h=>by
  have h0:=fillS_fill pl ((i,v) :: ps) cs r h
  simp only [fillS] at h
  cases hp:pl[i]? with
  | none=>simp [hp] at h
  | some x=>
   obtain ⟨o,n⟩:=x
   simp only [hp] at h
   split at h
   ·rename_i hc
    have ih:=fillS_fill' hpf ps _ r h
    have hp':pl.toArray[i]? = some (o,n):=by simpa using hp
    have e1:=fillS_fill pl ps _ r h
    have h1:=fillS_fill pl [(i,v)] cs _ (by simp only [fillS,hp]; rw [if_pos hc])
    simp only [Instr.fill,hp'] at h1
    simp only [Instr.fill,hpf i _ hp]
    split at h1
    ·cases h1
    ·rename_i hno
     rw [if_neg hno]
     simp only [Option.some.injEq] at h1
     rw [h1]
     exact ih
   ·cases h
end Go.SX

namespace Go.SX
open Go.RowKit
def isLoad:Op → Bool
 | .load ..=>true
 | _=>false
def Gives (E:Env) (fr:List SV) (L:List Box) (H:List HO) (op:Op) (s:SV):Prop:=
 ∀ (bs:Nat → Nat) (ks:List (Nat × Obj)) (L':List Box) (H':List HO) (w:World) (ρ:Operand → Value) (o:Oper),Rel E.w0 bs ks L' H' w → (isLoad op = true → L <+: L' ∧ ∀ x ∈ H,x ∈ H') →
  (∀ x ∈ op.operands,ρ x = (op1 fr x).real bs) → o.op = op → (execOp ρ o).run E.P w = .ok (.value (s.real bs)) w
theorem build_run {P:Program} {T:TypeId} {pl:List (Nat × Nat)} {z cs:List Value} {ps:List (Nat × Value)} (hp:placesT P T = some pl) (hz:zeroT P T = some z) (hf:fillS pl z ps = some cs) (w:World):
  (Instr.build T ps.toArray).run P w = .ok (.agg cs.toArray) w:=by
 unfold placesT at hp
 split at hp
 ·rename_i fs hu
  split at hp
  case isFalse=>cases hp
  rename_i hall
  simp only [Option.some.injEq] at hp
  have hfs:∀ f ∈ fs,(P.info? f.type).isSome = true:=fun f hf=>(Array.all_eq_true_iff_forall_mem.1 hall) f hf
  have hz':∃ v,(zeroValue T).run P w = .ok v w ∧ v.cells.toList = z:=by
   unfold zeroT at hz
   cases hi:P.info? T with
   | none=>simp [hi] at hz
   | some i=>
    simp only [hi] at hz
    cases hv:i.zero with
    | none=>simp [hv] at hz
    | some v=>simp [hv] at hz; exact ⟨v,by simp [zeroValue,typeInfo,hi,hv],hz⟩
  obtain ⟨v,hv,hvz⟩:=hz'
  have hmap:∀ (l:List Field) (w:World),(∀ f ∈ l,(P.info? f.type).isSome = true) → (l.mapM (m:=Sem) fun f=>do pure (f.offset,← sizeOf f.type)).run P w = .ok (l.map fun f=>(f.offset,P.cellsOf f.type)) w:=by
   intro l
   induction l with
   | nil=>intro w _; simp
   | cons f l ih=>
    intro w hl
    obtain ⟨i,hi⟩:=Option.isSome_iff_exists.1 (hl f (by simp))
    simp only [List.mapM_cons,Sem.run_bind,run_sizeOf w hi,Result.andThen_ok,Sem.run_pure,ih w fun g hg=>hl g (by simp [hg]),List.map_cons]
  have hm2:(fs.mapM (m:=Sem) fun f=>do pure (f.offset,← sizeOf f.type)).run P w = .ok pl.toArray w:=by
   have hmf:=hmap fs.toList w (fun f hf=>hfs f (Array.mem_toList_iff.1 hf))
   rw [← Array.toArray_toList (xs:=fs),List.mapM_toArray]
   simp only [Sem.run_map,hmf,Result.andThen_ok,hp]
  have hfill:=fillS_fill pl ps z cs hf
  have hvc:v.cells = z.toArray:=by rw [← hvz]
  simp only [Instr.build,Sem.run_bind,hv,Result.andThen_ok,run_underlying hu,hm2,hvc,hfill,Sem.run_pure]
 ·rename_i n e hu
  split at hp
  case h_2=>cases hp
  rename_i ie hie
  simp only [Option.some.injEq] at hp
  have hz':∃ v,(zeroValue T).run P w = .ok v w ∧ v.cells.toList = z:=by
   unfold zeroT at hz
   cases hi:P.info? T with
   | none=>simp [hi] at hz
   | some i=>
    simp only [hi] at hz
    cases hv:i.zero with
    | none=>simp [hv] at hz
    | some v=>simp [hv] at hz; exact ⟨v,by simp [zeroValue,typeInfo,hi,hv],hz⟩
  obtain ⟨v,hv,hvz⟩:=hz'
  have hvc:v.cells = z.toArray:=by rw [← hvz]
  have hfill:=fillS_fill' (pf:=fun k=>some (k * ie.size,ie.size)) (fun k x hx=>by
   rw [← hp,List.getElem?_map] at hx
   cases hr:(List.range n)[k]? with
   | none=>rw [hr] at hx; cases hx
   | some m=>
    rw [hr] at hx
    have hlt:k < n:=by
     have:=(List.getElem?_eq_some_iff.1 hr).1
     simpa using this
    rw [List.getElem?_range hlt] at hr
    cases hr
    exact hx) ps z cs hf
  have hcell:P.cellsOf e = ie.size:=by simp [Program.cellsOf,hie]
  simp only [Instr.build,Sem.run_bind,hv,Result.andThen_ok,run_underlying hu,run_sizeOf w hie,hcell,hvc,hfill,Sem.run_pure]
 ·cases hp
theorem free_move {E:Env} {fr:List SV} {L:List Box} {H:List HO} (x:Operand):Gives E fr L H (.move x) (op1 fr x):=fun bs ks L' H' w ρ o _ _ he ho=>by
 simp [execOp,ho,he x (by simp [Op.operands])]
theorem free_assign {E:Env} {fr:List SV} {L:List Box} {H:List HO} (x:Operand):Gives E fr L H (.assign x) (op1 fr x):=fun bs ks L' H' w ρ o _ _ he ho=>by
 simp [execOp,ho,he x (by simp [Op.operands])]
def Env.Fine (_:Env):Prop:=True
theorem blt_sound {E:Env} {fr:List SV} {L:List Box} {H:List HO} {c:Call} {K:SV → Prop} (h:bltS E.P (op1 fr) c.callee c.args.toList c.argTypes.toList K):
  ∃ s,K s ∧ (∀ n,s.wf n) ∧ Gives E fr L H (.call c) s:=by
 obtain ⟨ce,⟨as⟩,⟨ts⟩⟩:=c
 simp only [] at h
 unfold bltS at h
 split at h
 ·rename_i x T
  obtain ⟨hT,h⟩:=h
  obtain ⟨vx,hx,h⟩:=withV_iff h
  unfold lenS at h
  split at h
  ·rename_i a n m
   refine ⟨_,h,fun n=>trivial,fun bs ks L' H' w ρ o _ _ he ho=>?_⟩
   obtain ⟨⟨e,sz⟩,hs⟩:=Option.isSome_iff_exists.1 hT
   obtain ⟨i,hu,_⟩:=slT_some hs
   have h1:=he x (by simp [Op.operands,Call.operands])
   rw [hx bs] at h1
   simp only [execOp,ho,resolve,invoke,builtin,List.map_toArray,List.map_cons,List.map_nil,h1,Sem.run_bind,Sem.run_pure,Result.andThen_ok]
   simp [Builtin.len_,run_underlying hu,SV.real,goInt]
  ·exact h.elim
 ·rename_i x T
  obtain ⟨hT,h⟩:=h
  obtain ⟨vx,hx,h⟩:=withV_iff h
  unfold capS at h
  split at h
  ·rename_i a n m
   refine ⟨_,h,fun n=>trivial,fun bs ks L' H' w ρ o _ _ he ho=>?_⟩
   obtain ⟨⟨e,sz⟩,hs⟩:=Option.isSome_iff_exists.1 hT
   obtain ⟨i,hu,_⟩:=slT_some hs
   have h1:=he x (by simp [Op.operands,Call.operands])
   rw [hx bs] at h1
   simp only [execOp,ho,resolve,invoke,builtin,List.map_toArray,List.map_cons,List.map_nil,h1,Sem.run_bind,Sem.run_pure,Result.andThen_ok]
   simp [Builtin.cap_,run_underlying hu,SV.real,goInt]
  ·exact h.elim
 ·rename_i x y
  obtain ⟨vx,hx,h⟩:=withV_iff h
  obtain ⟨vy,hy,hm⟩:=withV_iff h
  clear h
  unfold mmS at hm
  split at hm
  ·rename_i k a k' b
   refine ⟨_,hm,fun n=>trivial,fun bs ks L' H' w ρ o _ _ he ho=>?_⟩
   have h1:=he x (by simp [Op.operands,Call.operands])
   have h2:=he y (by simp [Op.operands,Call.operands])
   rw [hx bs] at h1
   rw [hy bs] at h2
   have hmm:(if b > a then b else a) = max a b:=by omega
   simp only [execOp,ho,resolve,invoke,builtin,List.map_toArray,List.map_cons,List.map_nil,h1,h2,Builtin.max_,Sem.run_bind,Sem.run_pure,Result.andThen_ok,List.foldlM_cons,List.foldlM_nil,Builtin.max2,SV.real,hmm,cond_true]
  ·exact hm.elim
 ·rename_i x y
  obtain ⟨vx,hx,h⟩:=withV_iff h
  obtain ⟨vy,hy,hm⟩:=withV_iff h
  clear h
  unfold mmS at hm
  split at hm
  ·rename_i k a k' b
   refine ⟨_,hm,fun n=>trivial,fun bs ks L' H' w ρ o _ _ he ho=>?_⟩
   have h1:=he x (by simp [Op.operands,Call.operands])
   have h2:=he y (by simp [Op.operands,Call.operands])
   rw [hx bs] at h1
   rw [hy bs] at h2
   have hmm:(if b < a then b else a) = min a b:=by omega
   simp only [execOp,ho,resolve,invoke,builtin,List.map_toArray,List.map_cons,List.map_nil,h1,h2,Builtin.min_,Sem.run_bind,Sem.run_pure,Result.andThen_ok,List.foldlM_cons,List.foldlM_nil,Builtin.min2,SV.real,hmm,cond_false]
  ·exact hm.elim
 ·exact h.elim
theorem free_sound {E:Env} (hE:E.Fine) {fr:List SV} {L:List Box} {H:List HO} {op:Op} {K:SV → Prop} (h:freeOp E fr L H op K):
  ∃ s,K s ∧ (∀ n,WfFr n fr → s.wf n) ∧ Gives E fr L H op s:=by
 unfold freeOp at h
 split at h
 ·rename_i x
  exact ⟨_,h,fun n hw=>op1_wf hw x,free_move x⟩
 ·rename_i x
  exact ⟨_,h,fun n hw=>op1_wf hw x,free_assign x⟩
 ·rename_i c a b
  unfold pickS at h
  split at h
  ·rename_i t hc
   refine ⟨_,h,fun n hw=>?_,fun bs ks L' H' w ρ o _ _ he ho=>?_⟩
   ·cases t
    ·exact op1_wf hw b
    ·exact op1_wf hw a
   ·have h1:=he c (by simp [Op.operands])
    have h2:=he a (by simp [Op.operands])
    have h3:=he b (by simp [Op.operands])
    rw [hc] at h1
    cases t <;> simp [execOp,ho,h1,h2,h3,SV.real,asBool]
  ·rename_i t hc
   obtain ⟨x,hx,h⟩:=withV_iff h
   obtain ⟨y,hy,p,q,rfl,rfl,h⟩:=withV_iff h
   refine ⟨_,h,fun n hw=>trivial,fun bs ks L' H' w ρ o _ _ he ho=>?_⟩
   have h1:=he c (by simp [Op.operands])
   have h2:=he a (by simp [Op.operands])
   have h3:=he b (by simp [Op.operands])
   rw [hc] at h1
   rw [hx bs] at h2
   rw [hy bs] at h3
   cases t <;> simp [execOp,ho,h1,h2,h3,SV.real,asBool]
  ·exact h.elim
 ·rename_i T x
  obtain ⟨s,hK,hw,hr⟩:=ldS_sound h
  refine ⟨s,hK,fun n _=>hw n,fun bs ks L' H' w ρ o r hps he ho=>?_⟩
  have h1:=he x (by simp [Op.operands])
  simp only [execOp,ho,h1]
  exact run_v (hr bs ks L' H' w r (hps rfl).1 (hps rfl).2)
 ·rename_i x
  unfold ncS at h
  split at h
  ·rename_i j o' hx
   refine ⟨_,h,fun n hw=>hx ▸ op1_wf hw x,fun bs ks L' H' w ρ o _ _ he ho=>?_⟩
   have h1:=he x (by simp [Op.operands])
   rw [hx] at h1
   simp only [execOp,ho,h1,SV.real]
   rfl
  ·rename_i a hx
   refine ⟨_,h,fun n hw=>trivial,fun bs ks L' H' w ρ o _ _ he ho=>?_⟩
   have h1:=he x (by simp [Op.operands])
   rw [hx] at h1
   simp only [execOp,ho,h1,SV.real]
   rfl
  ·rename_i f p q hx
   refine ⟨_,h,fun n hw=>trivial,fun bs ks L' H' w ρ o _ _ he ho=>?_⟩
   have h1:=he x (by simp [Op.operands])
   rw [hx] at h1
   simp only [execOp,ho,h1,SV.real]
   rfl
  ·rename_i f p q hx
   refine ⟨_,h,fun n hw=>trivial,fun bs ks L' H' w ρ o _ _ he ho=>?_⟩
   have h1:=he x (by simp [Op.operands])
   rw [hx] at h1
   simp only [execOp,ho,h1,SV.real]
   rfl
  ·exact h.elim
 ·rename_i op T x y yT
  obtain ⟨vx,hx,h⟩:=withV_iff h
  obtain ⟨vy,hy,h⟩:=withV_iff h
  obtain ⟨v,hK,hr⟩:=binS_sound h x y
  refine ⟨_,hK,fun n hw=>trivial,fun bs ks L' H' w ρ o _ _ he ho=>?_⟩
  have h1:=he x (by simp [Op.operands])
  have h2:=he y (by simp [Op.operands])
  simp only [execOp,ho,h1,h2,hx,hy]
  exact run_v (hr w)
 ·rename_i op T x
  unfold unS at h
  split at h
  ·rename_i t hx
   refine ⟨_,h,fun n hw=>trivial,fun bs ks L' H' w ρ o _ _ he ho=>?_⟩
   have h1:=he x (by simp [Op.operands])
   rw [hx] at h1
   simp [execOp,ho,h1,SV.real,Op.unary]
  ·rename_i t hx
   refine ⟨_,h,fun n hw=>trivial,fun bs ks L' H' w ρ o _ _ he ho=>?_⟩
   have h1:=he x (by simp [Op.operands])
   rw [hx] at h1
   simp [execOp,ho,h1,SV.real,Op.unary]
  ·rename_i k m hx
   refine ⟨_,h,fun n hw=>trivial,fun bs ks L' H' w ρ o _ _ he ho=>?_⟩
   have h1:=he x (by simp [Op.operands])
   rw [hx] at h1
   simp [execOp,ho,h1,SV.real,Op.unary,Op.intArith]
  ·exact h.elim
 ·rename_i s d x
  obtain ⟨vx,hx,k,k',n,hs,hd,rfl,hK⟩:=withV_iff h
  refine ⟨_,hK,fun n hw=>trivial,fun bs ks L' H' w ρ o _ _ he ho=>?_⟩
  have h1:=he x (by simp [Op.operands])
  have hs':E.P.underlying s = some (.int k):=by
   unfold intT at hs; split at hs
   ·rename_i hu; simp at hs; rw [hu,hs]
   ·cases hs
  have hd':E.P.underlying d = some (.int k'):=by
   unfold intT at hd; split at hd
   ·rename_i hu; simp at hd; rw [hu,hd]
   ·cases hd
  simp only [execOp,ho,h1,hx]
  refine run_v ?_
  simp only [convert,Sem.run_bind,run_underlying hs',run_underlying hd',Result.andThen_ok]
  rfl
 ·rename_i fn xs ys
  obtain ⟨vx,hx,h⟩:=withVs_iff h
  obtain ⟨vy,hy,h⟩:=withVs_iff h
  refine ⟨_,h,fun n hw=>trivial,fun bs ks L' H' w ρ o _ _ he ho=>?_⟩
  have e1:xs.map ρ = vx.toArray:=by
   apply Array.ext'
   rw [← hx bs]
   simp only [Array.toList_map,List.map_map]
   exact List.map_congr_left fun x hxm=>he x (by simp [Op.operands]; exact .inl (by simpa using hxm))
  have e2:ys.map ρ = vy.toArray:=by
   apply Array.ext'
   rw [← hy bs]
   simp only [Array.toList_map,List.map_map]
   exact List.map_congr_left fun x hxm=>he x (by simp [Op.operands]; exact .inr (by simpa using hxm))
  simp only [execOp,ho,e1,e2]
  exact run_v rfl
 ·rename_i T x f
  unfold faS at h
  split at h
  ·rename_i n j o' hf hx
   refine ⟨_,h,fun m hw=>?_,fun bs ks L' H' w ρ o _ _ he ho=>?_⟩
   ·have:=op1_wf hw x
    rw [hx] at this
    exact this
   ·have h1:=he x (by simp [Op.operands])
    rw [hx] at h1
    simp only [execOp,ho,h1,SV.real]
    refine run_v ?_
    rw [fieldAt_run hf,add_block]
  ·rename_i n a hf hx
   refine ⟨_,h,fun m hw=>trivial,fun bs ks L' H' w ρ o _ _ he ho=>?_⟩
   have h1:=he x (by simp [Op.operands])
   rw [hx] at h1
   simp only [execOp,ho,h1,SV.real]
   exact run_v (fieldAt_run hf a w)
  ·exact h.elim
 ·rename_i T x f
  obtain ⟨vx,hx,h⟩:=withV_iff h
  unfold fldS at h
  split at h
  ·rename_i o' k cs hf
   obtain ⟨fs,fd,hu,hfd,hk,rfl⟩:=fldT_some hf
   obtain ⟨v,hK,hr⟩:=part_run hk h
   refine ⟨_,hK,fun m hw=>trivial,fun bs ks L' H' w ρ o _ _ he ho=>?_⟩
   have h1:=he x (by simp [Op.operands])
   simp only [execOp,ho,h1,hx]
   refine run_v ?_
   simp [Instr.field,run_underlying hu,hfd,asAgg,hr,SV.real]
  ·exact h.elim
 ·rename_i T x i
  obtain ⟨vi,hi,h⟩:=withV_iff h
  obtain ⟨s,hK,hw,hr⟩:=ixS_sound h
  refine ⟨s,hK,fun n hf=>hw n (op1_wf hf x),fun bs ks L' H' w ρ o _ _ he ho=>?_⟩
  have h1:=he x (by simp [Op.operands])
  have h2:=he i (by simp [Op.operands])
  simp only [execOp,ho,h1,h2,hi]
  exact run_v (hr bs w)
 ·rename_i T x i
  obtain ⟨vx,hx,h⟩:=withV_iff h
  obtain ⟨vi,hi,h⟩:=withV_iff h
  obtain ⟨v,hK,hr⟩:=idxS_sound h
  refine ⟨_,hK,fun n hf=>trivial,fun bs ks L' H' w ρ o _ _ he ho=>?_⟩
  have h1:=he x (by simp [Op.operands])
  have h2:=he i (by simp [Op.operands])
  simp only [execOp,ho,h1,h2,hi,hx]
  exact run_v (hr w)
 ·rename_i x i
  obtain ⟨vx,hx,h⟩:=withV_iff h
  unfold extS at h
  split at h
  ·rename_i vs
   obtain ⟨v,hv,hK⟩:=h
   refine ⟨_,hK,fun n hf=>trivial,fun bs ks L' H' w ρ o _ _ he ho=>?_⟩
   have h1:=he x (by simp [Op.operands])
   have hv':vs[i]? = some v:=by simpa using hv
   simp only [execOp,ho,h1,hx]
   refine run_v ?_
   simp [Instr.extract,hv',SV.real]
  ·exact h.elim
 ·rename_i T ps
  obtain ⟨xs,hx,pl,z,cs,hp,hz,hf,hK⟩:=withVs_iff h
  refine ⟨_,hK,fun n hf=>trivial,fun bs ks L' H' w ρ o _ _ he ho=>?_⟩
  have e:(ps.map fun (p:Nat × Operand)=>(p.1,ρ p.2)) = ((ps.toList.map (·.1)).zip xs).toArray:=by
   apply Array.ext'
   rw [← hx bs]
   simp only [Array.toList_map,List.map_map]
   rw [List.zip_map',]
   refine List.map_congr_left fun p hpm=>?_
   simp only [Function.comp]
   rw [he p.2 (by simp [Op.operands]; exact ⟨p.1,by simpa using hpm⟩)]
  simp only [execOp,ho]
  refine run_v ?_
  have e':(ps.map fun (x:Nat × Operand)=>match x with | (i,x)=>(i,ρ x)) = (ps.map fun (p:Nat × Operand)=>(p.1,ρ p.2)):=rfl
  rw [e',e]
  exact build_run hp hz hf w
 ·rename_i T x lo hi mx
  obtain ⟨vx,hx,h⟩:=withV_iff h
  obtain ⟨vlo,hlo,h⟩:=optV_iff h
  obtain ⟨vhi,hhi,h⟩:=optV_iff h
  obtain ⟨vmx,hmx,h⟩:=optV_iff h
  obtain ⟨v,hK,hr⟩:=slQ_sound h
  refine ⟨_,hK,fun n hf=>trivial,fun bs ks L' H' w ρ o _ _ he ho=>?_⟩
  have h1:=he x (by simp [Op.operands])
  have hopt:∀ y:Option Operand,(∀ z ∈ y,z ∈ (Op.slice T x lo hi mx).operands) → y.map ρ = (y.map (op1 fr)).map (SV.real bs):=by
   intro y hy
   cases y with
   | none=>rfl
   | some z=>simp [he z (hy z (by simp))]
  have e1:=hopt lo (by intro z hz; simp [Op.operands]; cases lo <;> simp_all)
  have e2:=hopt hi (by intro z hz; simp [Op.operands]; cases hi <;> simp_all)
  have e3:=hopt mx (by intro z hz; simp [Op.operands]; cases mx <;> simp_all)
  simp only [execOp,ho,h1,hx,e1,e2,e3,hlo,hhi,hmx]
  exact run_v (hr w)
 ·rename_i c
  obtain ⟨s,hK,hr⟩:=blt_sound h
  exact ⟨s,hK,fun n hf=>hr.1 n,hr.2⟩
 ·exact h.elim
end Go.SX

namespace Go.SX
open Go.RowKit
inductive Tg where
 | fn (f:Nat)
 | yield (l:Nat)
def fence (rd:Option Nat):Fence:={ Fence.wide with round:=rd }
def Invokes (P:Program) (tg:Tg) (args:List Value) (w:World) (R:Ending → World → Prop):Prop:=
 match tg with
 | .fn f=>Calls P f args.toArray w R
 | .yield l=>YieldAt Fence.wide 0 P l args.toArray w R
def CallOb (P:Program) (w0:Base) (dr:Bool) (tg:Tg) (args:List Value) (H:List HO) (k:Value → List HO → Prop):Prop:=
 ∀ w,Hp w0 H w → Invokes P tg args w fun e w'=>∃ v M H',e = .returned v ∧ Keep M w w' ∧ (∀ b,M b → fpsx H b) ∧ Hp w0 H' w' ∧ (∀ h ∈ H',∀ b,(h.fp b → fps H b ∨ w.heap.size ≤ b) ∧ (h.fpx b → fpsx H b ∨ w.heap.size ≤ b)) ∧
  (dr = true → ∀ x ∈ H,x ∈ H') ∧ k v H'
def CallT (P:Program) (g:Nat):Prop:=∀ args w,(callFunc g args).run P w = .ok (.enter g args) w
def vcells (v:Value):List Value:=v.cells.toList
def zerosL (n:Nat) (z:List Value):List Value:=(List.replicate n z).flatten
theorem length_zerosL (n:Nat) (z:List Value):(zerosL n z).length = n * z.length:=by simp [zerosL]
theorem madeCells_zerosL (z:List Value) (n:Nat):madeCells z.toArray (n * z.length) = (zerosL n z).toArray:=by
 apply Array.ext'
 simp only [madeCells,Array.toList_map,Array.toList_range]
 induction n with
 | zero=>simp [zerosL]
 | succ n ih=>
  rw [Nat.succ_mul,List.range_add,List.map_append,ih]
  have:zerosL (n + 1) z = zerosL n z ++ z:=by simp [zerosL,List.replicate_succ']
  rw [this]
  congr 1
  rw [List.map_map]
  apply List.ext_getElem
  ·simp
  ·intro i h1 h2
   simp only [List.length_map,List.length_range] at h1
   simp [Nat.add_mod,Nat.mod_eq_of_lt h1,h1]
def elT (P:Program) (T:TypeId):Option (TypeId × Nat × List Value × Nat):=
 match P.underlying T with
 | some (.slice e)=>match P.info? e with
  | some i=>match i.zero with
   | some z=>if i.size = 0 ∨ z.cells.size ≠ i.size ∨ i.bytes = 0 then none else some (e,i.size,z.cells.toList,i.bytes)
   | none=>none
  | none=>none
 | _=>none
def szT (P:Program) (T:TypeId):Option Nat:=(P.info? T).map (·.size)
def newBox (E:Env) (d:Option Nat) (T:TypeId) (cs:List Value) (L:List Box) (H:List HO) (k:SV → List Box → List HO → Prop):Prop:=
 match d with
 | some d=>if E.re.contains d = true then ∀ b,k (.v (.pointer (some ⟨b,0,none⟩))) L (.cells b T cs :: H) else k (.p L.length 0) (L ++ [(T,cs)]) H
 | none=>False
def Sl (w:World) (v:Value) (sz:Nat) (xs:List Value):Prop:=
 ∃ a len cap,v = .slice a len cap ∧ xs.length = len * sz ∧ ∀ i x,xs[i]? = some x → ∃ ad,a = some ad ∧ w.cell? (ad.add i) = some x
def AppRo (w0:Base) (e sz bytes:Nat) (s x:Value) (H:List HO) (K:Value → List HO → Prop):Prop:=
 ∃ a n m xs ys,s = .slice (some a) n n ∧ xs.length = n * sz ∧ ys.length = m * sz ∧ 0 < m ∧ (∀ w,Hp w0 H w → Sl w s sz xs) ∧ (∀ w,Hp w0 H w → Sl w x sz ys) ∧ (n + m) * bytes ≤ 140737488355328 ∧
  ∀ b c,w0.w.heap.size ≤ b → n + m ≤ c → K (.slice (some ⟨b,0,none⟩) (n + m) c) (.row (.slice (some ⟨b,0,none⟩) (n + m) c) e sz (xs ++ ys) :: H)
def AppOb (w0:Base) (k:Option (TypeId × Nat × List Value × Nat)) (s x:Value) (H:List HO) (K:Value → List HO → Prop):Prop:=
 match k with
 | some (e,sz,_,bytes)=>
  (∃ n m xs ys A,HImp w0 H (.row s e sz xs :: A) ∧ xs.length = n * sz ∧ ys.length = m * sz ∧ (∀ w,Hp w0 H w → Sl w x sz ys) ∧ (∀ y ∈ ys,y.oneCell' = true) ∧
   (n + m) * bytes ≤ 140737488355328 ∧ ∀ ad c,(ad = none → n = 0 ∧ m = 0) → n + m ≤ c → (∀ b,(Value.slice ad (n + m) c).ownBlock = some b → s.ownBlock = some b ∨ w0.w.heap.size ≤ b) → K (.slice ad (n + m) c) (.row (.slice ad (n + m) c) e sz (xs ++ ys) :: A)) ∨
  AppRo w0 e sz bytes s x H K
 | none=>False
def CopyOb (P:Program) (w0:Base) (T T':TypeId) (a x:Value) (H:List HO) (K:Value → List HO → Prop):Prop:=
 ∀ w ty,Hp w0 H w → ∃ v M H' w',(Builtin.copy_ #[T,T'] ty #[a,x]).run P w = .ok v w' ∧ Keep M w w' ∧ (∀ b,M b → fpsx H b) ∧ Hp w0 H' w' ∧
  (∀ h ∈ H',∀ b,(h.fp b → fps H b ∨ w.heap.size ≤ b) ∧ (h.fpx b → fpsx H b ∨ w.heap.size ≤ b)) ∧ K v H'
def ClrOb (P:Program) (w0:Base) (T:TypeId) (a:Value) (H:List HO) (K:Value → List HO → Prop):Prop:=
 ∀ w ty,Hp w0 H w → ∃ v M H' w',(Builtin.clear_ #[T] ty #[a]).run P w = .ok v w' ∧ Keep M w w' ∧ (∀ b,M b → fpsx H b) ∧ Hp w0 H' w' ∧
  (∀ h ∈ H',∀ b,(h.fp b → fps H b ∨ w.heap.size ≤ b) ∧ (h.fpx b → fpsx H b ∨ w.heap.size ≤ b)) ∧ K v H'
def WrStep (h:HO) (a:Addr) (vs:List Value) (h':HO):Prop:=
 (∀ b,(h'.fp b ↔ h.fp b) ∧ (h'.fpx b ↔ h.fpx b)) ∧ ∀ w,h.ok w → ∃ b off cs T,a = ⟨b,off,none⟩ ∧ h.fpx b ∧ w.heap[b]? = some (.cells cs T (0,0)) ∧ off + vs.length ≤ cs.size ∧
  ∀ w',w'.heap[b]? = some (.cells (cs.toList.take off ++ vs ++ cs.toList.drop (off + vs.length)).toArray T (0,0)) → (∀ c,h.fp c → c ≠ b → w'.heap[c]? = w.heap[c]?) → w.heap.size ≤ w'.heap.size → h'.ok w'
def WrOb (H:List HO) (a:Addr) (vs:List Value) (K:List HO → Prop):Prop:=
 ∃ A h B h',H = A ++ h :: B ∧ WrStep h a vs h' ∧ K (A ++ h' :: B)
def stS (L:List Box) (H:List HO) (n:Option Nat) (a:SV) (x:Value) (K:List Box → List HO → Prop):Prop:=
 n = some (vcells x).length ∧ (vcells x).all (·.oneCell') = true ∧
 match a with
 | .p j o=>j < L.length ∧ o + (vcells x).length ≤ (boxAt L j).length ∧ K (lset L j ((boxAt L j).take o ++ vcells x ++ (boxAt L j).drop (o + (vcells x).length))) H
 | .v (.pointer (some ad))=>WrOb H ad (vcells x) fun H=>K L H
 | _=>False
def mkS (k:Option (TypeId × Nat × List Value × Nat)) (n c:Value) (L:List Box) (H:List HO) (K:SV → List Box → List HO → Prop):Prop:=
 match k,n,c with
 | some (e,sz,z,bytes),.int _ n,.int _ c=>0 ≤ n ∧ n ≤ c ∧ c * bytes ≤ 140737488355328 ∧ ∀ b,K (.v (.slice (some ⟨b,0,none⟩) n.toNat c.toNat)) L (.row (.slice (some ⟨b,0,none⟩) n.toNat c.toNat) e sz (zerosL n.toNat z) :: H)
 | _,_,_=>False
def bsS (k:Option (TypeId × Nat × List Value × Nat)) (n:Nat) (ps:List (Nat × Value)) (L:List Box) (H:List HO) (K:SV → List Box → List HO → Prop):Prop:=
 match k with
 | some (e,sz,z,_)=>n * sz ≤ 16777216 ∧ ∃ cs,fillS ((List.range n).map fun i=>(i * sz,sz)) (zerosL n z) ps = some cs ∧
   ∀ b,K (.v (.slice (some ⟨b,0,none⟩) n n)) L (.row (.slice (some ⟨b,0,none⟩) n n) e sz cs :: H)
 | none=>False
def callS (E:Env) (dr:Bool) (g:Nat) (args:List Value) (L:List Box) (H:List HO) (k:SV → List Box → List HO → Prop):Prop:=
 match E.det g args with
 | some v=>k (.v v) L H
 | none=>CallOb E.P E.w0 dr (.fn g) args H fun v H=>k (.v v) L H
def invS (E:Env) (dr:Bool) (f:SV) (args:List Value) (L:List Box) (H:List HO) (k:SV → List Box → List HO → Prop):Prop:=
 match f with
 | .v (.func (.func g) first cap)=>CallT E.P g ∧ callS E dr g (first.toList ++ args ++ cap.toList) L H k
 | .v (.func (.yield l) first _)=>CallOb E.P E.w0 dr (.yield l) (first.toList ++ args) H fun v H=>k (.v v) L H
 | _=>False
def calS (E:Env) (dr:Bool) (g:Operand → SV) (c:Callee) (args:List Operand) (ts:List TypeId) (L:List Box) (H:List HO) (k:SV → List Box → List HO → Prop):Prop:=
 match c,args,ts with
 | .value f,args,_=>withVs (args.map g) fun args=>invS E dr (g f) args L H k
 | .builtin .copy,[a,x],[T,T']=>withV (g a) fun a=>withV (g x) fun x=>CopyOb E.P E.w0 T T' a x H fun v H=>k (.v v) L H
 | .builtin .append,[s,x],[T,T']=>T' = T ∧ withV (g s) fun s=>withV (g x) fun x=>AppOb E.w0 (elT E.P T) s x H fun v H=>k (.v v) L H
 | .builtin .clear,[a],[T]=>withV (g a) fun a=>ClrOb E.P E.w0 T a H fun v H=>k (.v v) L H
 | _,_,_=>False
def InsOb (P:Program) (T:TypeId) (m key x:Value) (H:List HO) (K:List HO → Prop):Prop:=
 ∃ A b es c B es' c',H = A ++ .obj b (.map es c) :: B ∧ (∀ w:World,w.heap[b]? = some (.map es c) → (Instr.mapUpdate T m key x).run P w = .ok () { w with heap:=w.heap.setIfInBounds b (.map es' c') }) ∧ K (A ++ .obj b (.map es' c') :: B)
def LkOb (P:Program) (w0:Base) (T:TypeId) (m key:Value) (ok:Bool) (H:List HO) (K:Value → Prop):Prop:=
 ∃ v,(∀ w,Hp w0 H w → (Instr.lookup T m key ok).run P w = .ok v w) ∧ K v
def chainOp (E:Env) (dr:Bool) (fr:List SV) (L:List Box) (H:List HO) (d:Option Nat) (op:Op) (k:SV → List Box → List HO → Prop):Prop:=
 match op with
 | .alloc T=>∃ z,zeroT E.P T = some z ∧ newBox E d T z L H k
 | .box T x=>withV (op1 fr x) fun x=>newBox E d T (vcells x) L H k
 | .store T a x=>withV (op1 fr x) fun x=>stS L H (szT E.P T) (op1 fr a) x fun L H=>k (.v undef) L H
 | .buildSlice T n ps=>withVs (ps.toList.map fun p=>op1 fr p.2) fun xs=>bsS (elT E.P T) n ((ps.toList.map (·.1)).zip xs) L H k
 | .makeSlice T n c=>withV (op1 fr n) fun n=>withV (op1 fr c) fun c=>mkS (elT E.P T) n c L H k
 | .call c=>calS E dr (op1 fr) c.callee c.args.toList c.argTypes.toList L H k
 | .makeMap _ none=>∀ b,k (.v (.map (some b))) L (.obj b (.map #[] 0) :: H)
 | .insert T m key x=>withV (op1 fr m) fun m=>withV (op1 fr key) fun key=>withV (op1 fr x) fun x=>InsOb E.P T m key x H fun H=>k (.v undef) L H
 | .mapUpdate T m key x=>withV (op1 fr m) fun m=>withV (op1 fr key) fun key=>withV (op1 fr x) fun x=>InsOb E.P T m key x H fun H=>k (.v undef) L H
 | .lookup T m key ok=>withV (op1 fr m) fun m=>withV (op1 fr key) fun key=>LkOb E.P E.w0 T m key ok H fun v=>k (.v v) L H
 | _=>False
def DetFn (P:Program) (w0:Base) (det:Nat → List Value → Option Value):Prop:=
 ∀ g args v,det g args = some v → ∀ w,Keep w0.X w0.w w → Calls P g args.toArray w fun e w'=>e = .returned v ∧ Keep (fun _=>False) w w'
def Env.DetOk (E:Env):Prop:=DetFn E.P E.w0 E.det
def storeLike:Op → Bool
 | .store ..=>true
 | .insert ..=>true
 | .mapUpdate ..=>true
 | .call { callee:=.builtin .max,.. }=>false
 | .call { callee:=.builtin .min,.. }=>false
 | .call { callee:=.builtin .len,.. }=>false
 | .call { callee:=.builtin .cap,.. }=>false
 | .call { callee:=.builtin _,.. }=>true
 | _=>false
structure Next' (E:Env) (dr:Bool) (op:Op) (bs bs':Nat → Nat) (ks:List (Nat × Obj)) (L L':List Box) (H H':List HO) (w w':World):Prop extends Come bs bs' L L' H H' w w' where
 rel:Rel E.w0 bs' ks L' H' w'
 pre:dr = true → storeLike op = false → L <+: L' ∧ ∀ x ∈ H,x ∈ H'
theorem elT_some {P:Program} {T:TypeId} {e sz bytes:Nat} {z:List Value} (h:elT P T = some (e,sz,z,bytes)):
  ∃ i zv,P.underlying T = some (.slice e) ∧ P.info? e = some i ∧ i.zero = some zv ∧ i.size = sz ∧ zv.cells.toList = z ∧ i.bytes = bytes ∧ sz ≠ 0 ∧ z.length = sz ∧ bytes ≠ 0:=by
 unfold elT at h
 split at h
 ·rename_i e' hu
  split at h
  ·rename_i i hi
   split at h
   ·rename_i zv hz
    split at h
    ·cases h
    ·rename_i hc
     simp only [Option.some.injEq,Prod.mk.injEq] at h
     obtain ⟨rfl,rfl,rfl,rfl⟩:=h
     simp only [not_or,Decidable.not_not] at hc
     exact ⟨i,zv,hu,hi,hz,rfl,rfl,rfl,hc.1,by simpa using hc.2.1,hc.2.2⟩
   ·cases h
  ·cases h
 ·cases h
theorem firstCells_sl {P:Program} {w:World} {a:Option Addr} {len cap sz m:Nat} {ys:List Value} (h:Sl w (.slice a len cap) sz ys) (hl:ys.length = m * sz):(Builtin.firstCells sz m (.slice a len cap)).run P w = .ok ys.toArray w:=by
 obtain ⟨a',len',cap',e,_,hc⟩:=h
 cases e
 cases a with
 | none=>
  cases ys with
  | nil=>simp [Builtin.firstCells]
  | cons y ys=>obtain ⟨ad,hd,_⟩:=hc 0 y rfl; cases hd
 | some ad=>
  refine run_firstCells_some w sz m ad len cap ys hl fun j v hj=>?_
  obtain ⟨ad',e,hv⟩:=hc j v hj
  cases e
  exact hv
theorem append_room {P:Program} {T e:TypeId} {i:TypeInfo} {w:World} (ht:P.underlying T = some (.slice e)) (hi:P.info? e = some i) {b off n cap m:Nat} {arr:Array Value} {a:Option Addr} {xc:Nat} {ys:List Value}
  (hb:w.heap[b]? = some (.cells arr e (0,0))) (hx:Sl w (.slice a m xc) i.size ys) (hl:ys.length = m * i.size) (h1:∀ y ∈ ys,y.oneCell' = true) (hroom:n + m ≤ cap) (hfit:off + n * i.size + ys.length ≤ arr.size) (ty:TypeId):
  (Builtin.append_ #[T,T] ty #[.slice (some ⟨b,off,none⟩) n cap,.slice a m xc]).run P w =
   .ok (.slice (some ⟨b,off,none⟩) (n + m) cap) (w.setRow b (arr.toList.take (off + n * i.size) ++ ys ++ arr.toList.drop (off + n * i.size + ys.length)).toArray):=by
 have hf:=firstCells_sl (P:=P) hx hl
 have hst:=run_storeCells_at P b (off + n * i.size) e ys 0 arr w hb (by simpa using hfit) h1
 simp only [Nat.add_zero] at hst
 simp only [Builtin.append_,List.getElem?_toArray,List.getElem?_cons_zero,List.getElem?_cons_succ,Sem.run_bind,run_underlying ht,Result.andThen_ok,run_size hi,Sem.run_pure,Builtin.lenOf]
 simp [hroom,hf,add_block,hst]
theorem append_nil0 {P:Program} {T e:TypeId} {i:TypeInfo} {w:World} (ht:P.underlying T = some (.slice e)) (hi:P.info? e = some i) {a:Option Addr} {xc:Nat} (hx:Sl w (.slice a 0 xc) i.size []) (ty:TypeId):
  (Builtin.append_ #[T,T] ty #[.slice none 0 0,.slice a 0 xc]).run P w = .ok (.slice none 0 0) w:=by
 have hf:=firstCells_sl (P:=P) (m:=0) hx (by simp)
 simp only [Builtin.append_,List.getElem?_toArray,List.getElem?_cons_zero,List.getElem?_cons_succ,Sem.run_bind,run_underlying ht,Result.andThen_ok,run_size hi,Sem.run_pure,Builtin.lenOf]
 simp [hf]
theorem Keep.setRow {w:World} {b:Nat} (cs:Array Value):Keep (fun k=>k = b) w (w.setRow b cs):=
 ⟨rfl,rfl,rfl,by simp [World.setRow],fun k _ hn=>setRow_other w b k cs hn⟩
theorem len0 {m k:Nat} (h:([]:List Value).length = m * k) (hk:0 < k):m = 0:=by
 rcases Nat.mul_eq_zero.1 h.symm with h | h
 ·exact h
 ·omega
theorem append_run {P:Program} {T e sz bytes:Nat} {z:List Value} (hk:elT P T = some (e,sz,z,bytes)) {w:World} {s x:Value} {n m:Nat} {xs ys:List Value} (hs:RowOk w s e sz xs) (hn:xs.length = n * sz) (hm:ys.length = m * sz)
  (hx:Sl w x sz ys) (h1:∀ y ∈ ys,y.oneCell' = true) (hb:(n + m) * bytes ≤ 140737488355328) (ty:TypeId):
  ∃ ad c w',(ad = none → n = 0 ∧ m = 0) ∧ (Builtin.append_ #[T,T] ty #[s,x]).run P w = .ok (.slice ad (n + m) c) w' ∧ RowOk w' (.slice ad (n + m) c) e sz (xs ++ ys) ∧ Keep (fun b=>s.ownBlock = some b) w w' ∧
   (∀ b,(Value.slice ad (n + m) c).ownBlock = some b → s.ownBlock = some b ∨ w.heap.size ≤ b):=by
 obtain ⟨i,zv,hu,hi,hz,rfl,hzc,rfl,hsz,hzl,hby⟩:=elT_some hk
 have hpos:0 < i.size:=by omega
 obtain ⟨a,m',xc,rfl,hm',hxc⟩:=hx
 have e1:m' = m:=Nat.eq_of_mul_eq_mul_right hpos (hm'.symm.trans hm)
 subst e1
 have hx:Sl w (.slice a m' xc) i.size ys:=⟨a,m',xc,rfl,hm',hxc⟩
 have hsmall:n + m' ≤ 140737488355328:=Nat.le_trans (Nat.le_mul_of_pos_right _ (by omega)) hb
 have hlen:(xs ++ ys).length = (n + m') * i.size:=by rw [List.length_append,hn,hm',Nat.add_mul]
 have hzsize:zv.cells.size = i.size:=by rw [← Array.length_toList,hzc]; exact hzl
 have grown:∀ old,old < n + m' → RowOk (w.drew.alloc (.cells (xs.toArray ++ ys.toArray ++ Builtin.zeroCells zv.cells (grownCap w (n + m') old e - (n + m'))) e))
   (.slice (some ⟨w.heap.size,0,none⟩) (n + m') (grownCap w (n + m') old e)) e i.size (xs ++ ys):=by
  intro old _
  have hge:=grownCap_ge w (n + m') old e
  have hcm:grownCap w (n + m') old e ≤ maxLen:=grownCap_le_maxLen w (n + m') old e (by simp only [maxLen]; omega)
  refine .inr ⟨w.heap.size,0,_,_,_,rfl,heap_alloc_new w.drew _,hlen,hge,hcm,?_,?_⟩
  ·simp only [Array.size_append,List.size_toArray,size_zeroCells,hzsize,hn,hm',← Nat.add_mul,Nat.zero_add]
   apply Nat.le_of_eq
   congr 1
   omega
  ·simp only [Array.toList_append,List.append_assoc,List.drop_zero]
   rw [← List.append_assoc,← hlen]
   exact List.take_left
 have kg:∀ o:Obj,Keep (fun b=>s.ownBlock = some b) w (w.drew.alloc o):=fun o=>⟨rfl,rfl,rfl,by simp,fun k hk _=>Below.heap_alloc w.drew o k hk⟩
 rcases hs with ⟨rfl,rfl⟩ | ⟨b,off,len,cap,arr,rfl,hb',hxl,hlc,hcm,hfit,htake⟩
 ·have hn0:n = 0:=len0 hn hpos
  subst hn0
  by_cases h0:m' = 0
  ·subst h0
   have:ys = []:=List.eq_nil_of_length_eq_zero (by simpa using hm')
   subst this
   exact ⟨none,0,w,fun _=>⟨rfl,rfl⟩,append_nil0 hu hi hx ty,.inl ⟨rfl,rfl⟩,Keep.refl _ w,fun b hb=>by simp [Value.ownBlock] at hb⟩
  ·cases a with
   | none=>
    cases ys with
    | nil=>have:=len0 hm' hpos; omega
    | cons y ys=>obtain ⟨ad,hd,_⟩:=hxc 0 y rfl; cases hd
   | some ad=>
    have hr:=run_append_nil (P:=P) w T ty e i zv hu hi hz ad m' xc ys hm' (fun j v hj=>by obtain ⟨ad',e,hv⟩:=hxc j v hj; cases e; exact hv) (by omega) (by omega) (by simp only [Nat.zero_add] at hb; omega)
    have hg:=grown 0 (by omega)
    simp only [Nat.zero_add,List.nil_append,Array.empty_append] at hg ⊢
    exact ⟨_,_,_,(fun h=>by cases h),hr,hg,kg _,fun b hb=>by simp [Value.ownBlock] at hb; exact .inr (by omega)⟩
 ·have e2:len = n:=Nat.eq_of_mul_eq_mul_right hpos (hxl.symm.trans hn)
  subst e2
  by_cases hroom:len + m' ≤ cap
  ·have hle:(len + m') * i.size ≤ cap * i.size:=Nat.mul_le_mul_right _ hroom
   have hle':off + len * i.size + ys.length ≤ arr.size:=by rw [hm',Nat.add_assoc,← Nat.add_mul]; omega
   have hr:=append_room hu hi hb' hx hm' h1 hroom hle' ty
   refine ⟨_,_,_,(fun h=>by cases h),hr,.inr ⟨b,off,len + m',cap,_,rfl,setRow_heap w b arr _ e _ hb',hlen,hroom,hcm,?_,?_⟩,(Keep.setRow _).mono fun k e=>by simp [Value.ownBlock,e],fun k hk=>.inl (by simpa [Value.ownBlock] using hk)⟩
   ·simp only [List.size_toArray,List.length_append,List.length_take,List.length_drop,Array.length_toList]
    omega
   ·have hal:arr.toList.length = arr.size:=rfl
    simp only [List.append_assoc]
    rw [List.drop_append_of_le_length (by simp; omega)]
    have h3:(arr.toList.take (off + len * i.size)).drop off = xs:=by
     rw [List.drop_take]
     simpa using htake
    rw [h3,← hlen,← List.append_assoc]
    exact List.take_left
  ·cases a with
   | none=>
    cases ys with
    | nil=>have:=len0 hm' hpos; omega
    | cons y ys=>obtain ⟨ad,hd,_⟩:=hxc 0 y rfl; cases hd
   | some ad=>
    have holds:∀ j v,xs[j]? = some v → w.cell? ((⟨b,off,none⟩:Addr).add j) = some v:=by
     intro j v hj
     rw [add_block,cell_of_cells hb']
     rw [← htake,List.getElem?_take] at hj
     split at hj
     ·simpa using hj
     ·cases hj
    have hr:=run_append_grow (P:=P) w T ty e i zv hu hi hz ⟨b,off,none⟩ len cap xs hxl holds ad m' xc ys hm' (fun j v hj=>by obtain ⟨ad',e,hv⟩:=hxc j v hj; cases e; exact hv) (by omega) (by omega) (growslice_fits (by omega) hb)
    exact ⟨_,_,_,(fun h=>by cases h),hr,grown cap (by omega),kg _,fun k hk=>by simp [Value.ownBlock] at hk; exact .inr (by omega)⟩
theorem append_ro {P:Program} {T e sz bytes:Nat} {z:List Value} (hk:elT P T = some (e,sz,z,bytes)) {w:World} {x:Value} {a:Addr} {n m:Nat} {xs ys:List Value} (hs:Sl w (.slice (some a) n n) sz xs) (hn:xs.length = n * sz) (hm:ys.length = m * sz) (h0:0 < m)
  (hx:Sl w x sz ys) (hb:(n + m) * bytes ≤ 140737488355328) (ty:TypeId):
  ∃ c w',(Builtin.append_ #[T,T] ty #[.slice (some a) n n,x]).run P w = .ok (.slice (some ⟨w.heap.size,0,none⟩) (n + m) c) w' ∧ RowOk w' (.slice (some ⟨w.heap.size,0,none⟩) (n + m) c) e sz (xs ++ ys) ∧ Keep (fun _=>False) w w':=by
 obtain ⟨i,zv,hu,hi,hz,rfl,hzc,rfl,hsz,hzl,hby⟩:=elT_some hk
 have hpos:0 < i.size:=by omega
 obtain ⟨a',m',xc,rfl,hm',hxc⟩:=hx
 have e1:m' = m:=Nat.eq_of_mul_eq_mul_right hpos (hm'.symm.trans hm)
 subst e1
 obtain ⟨a2,n2,c2,he,hn2,hsc⟩:=hs
 cases he
 have hsmall:n + m' ≤ 140737488355328:=Nat.le_trans (Nat.le_mul_of_pos_right _ (by omega)) hb
 have hlen:(xs ++ ys).length = (n + m') * i.size:=by rw [List.length_append,hn,hm',Nat.add_mul]
 have hzsize:zv.cells.size = i.size:=by rw [← Array.length_toList,hzc]; exact hzl
 cases a' with
 | none=>
  cases ys with
  | nil=>have:=len0 hm' hpos; omega
  | cons y ys=>obtain ⟨ad,hd,_⟩:=hxc 0 y rfl; cases hd
 | some ad=>
  have hr:=run_append_grow (P:=P) w T ty e i zv hu hi hz a n n xs hn (fun j v hj=>by obtain ⟨ad',e,hv⟩:=hsc j v hj; cases e; exact hv) ad m' xc ys hm' (fun j v hj=>by obtain ⟨ad',e,hv⟩:=hxc j v hj; cases e; exact hv) (by omega) (by omega) (growslice_fits (by omega) hb)
  refine ⟨_,_,hr,.inr ⟨w.heap.size,0,_,_,_,rfl,heap_alloc_new w.drew _,hlen,grownCap_ge w (n + m') n e,grownCap_le_maxLen w (n + m') n e (by simp only [maxLen]; omega),?_,?_⟩,⟨rfl,rfl,rfl,by simp,fun k hk _=>Below.heap_alloc w.drew _ k hk⟩⟩
  ·have hge:=grownCap_ge w (n + m') n e
   simp only [Array.size_append,List.size_toArray,size_zeroCells,hzsize,hn,hm',← Nat.add_mul,Nat.zero_add]
   apply Nat.le_of_eq
   congr 1
   omega
  ·simp only [Array.toList_append,List.append_assoc,List.drop_zero]
   rw [← List.append_assoc,← hlen]
   exact List.take_left
end Go.SX

namespace Go.SX
open Go.RowKit
theorem run_u {P:Program} {w w':World} {s:Sem Unit} (h:s.run P w = .ok () w'):((do s; pure Next.skip):Sem Next).run P w = .ok .skip w':=by
 simp [h]
theorem run_v' {P:Program} {w w':World} {s:Sem Value} {v:Value} (h:s.run P w = .ok v w'):((do pure (Next.value (← s))):Sem Next).run P w = .ok (.value v) w':=by
 simp [h]
theorem fence_calls {rd:Option Nat} {n:Nat} {P:Program} {f:FuncId} {args:Array Value} {w:World} {R:Ending → World → Prop} (h:Calls P f args w R):CallsIn (fence rd) n P f args w R:=
 (callsIn_wide (n:=n)).2 h
theorem fence_round {rd:Option Nat} {n:Nat} {P:Program} {l:Nat} {f:FuncId} {tmps:Array Value} {assign body:Code} {w:World} {R:Ending → World → Prop} (h:RoundIn Fence.wide n P l f tmps assign body w R):RoundIn (fence rd) n P l f tmps assign body w R:=h
section
variable {E:Env} {dr:Bool} {L:List Box} {H:List HO} {k:SV → List Box → List HO → Prop} {bs:Nat → Nat} {ks:List (Nat × Obj)} {w:World} {op:Op}
theorem Next'.newHO {w':World} (r:Rel E.w0 bs ks L H w) (hk:Keep (fun _=>False) w w') {h:HO} (ho:h.ok w') (hn:∀ b,h.fp b → w.heap.size ≤ b):Next' E dr op bs bs ks L L H (h :: H) w w':=
 ⟨⟨fun _ _=>rfl,Nat.le_refl _,Frm.new hk fun x hx b hb=>by rcases List.mem_cons.1 hx with rfl | hx; exact .inr (hn b hb); exact .inl hx⟩,r.newHO hk ho hn,fun _ _=>⟨List.prefix_refl _,fun x hx=>List.mem_cons_of_mem _ hx⟩⟩
theorem newBox_sound {d:Option Nat} {T:TypeId} {cs:List Value} (h:newBox E d T cs L H k) (r:Rel E.w0 bs ks L H w):
  ∃ s bs' L' H',k s L' H' ∧ s.wf L'.length ∧ s.real bs' = .pointer (some ⟨w.heap.size,0,none⟩) ∧ Next' E dr op bs bs' ks L L' H H' w (w.alloc (.cells cs.toArray T)):=by
 unfold newBox at h
 split at h
 ·split at h
  ·exact ⟨_,bs,L,_,h w.heap.size,trivial,rfl,Next'.newHO r (Keep.alloc _ w _) (heap_alloc_new w _) fun b e=>Nat.le_of_eq e.symm⟩
  ·obtain ⟨bs',ha,hb,hr⟩:=r.newBox T cs
   exact ⟨_,bs',_,H,h,by simp [SV.wf],by simp [SV.real,hb],⟨⟨ha,by simp,⟨(Keep.alloc (fun _=>False) w _).mono fun _ h=>h.elim,fun _ h=>.inl h,fun _ h=>.inl h,fun j hj=>by
    by_cases e:j = L.length
    ·subst e; exact .inr (Nat.le_of_eq hb.symm)
    ·have hjl:j < L.length:=by simp at hj; omega
     exact .inl ⟨j,hjl,ha j hjl⟩⟩⟩,hr,fun _ _=>⟨List.prefix_append _ _,fun _ h=>h⟩⟩⟩
 ·exact h.elim
theorem storeVar_run {P:Program} {T:TypeId} {b off:Nat} {cs:Array Value} {T':TypeId} {x:Value} (hs:szT P T = some (vcells x).length) (h1:(vcells x).all (·.oneCell') = true) (hb:w.heap[b]? = some (.cells cs T' (0,0)))
  (hle:off + (vcells x).length ≤ cs.size):(storeVar T ⟨b,off,none⟩ x).run P w = .ok () (w.setRow b (cs.toList.take off ++ vcells x ++ cs.toList.drop (off + (vcells x).length)).toArray):=by
 unfold szT at hs
 cases hi:P.info? T with
 | none=>simp [hi] at hs
 | some i=>
  simp only [hi,Option.map_some,Option.some.injEq] at hs
  have e:x.cells.size = i.size:=by rw [hs]; simp [vcells]
  have hst:=run_storeCells_at P b off T' (vcells x) 0 cs w hb (by simpa using hle) (fun v hv=>List.all_eq_true.1 h1 v hv)
  simp only [Nat.add_zero] at hst
  simp only [storeVar,Sem.run_bind,run_size hi,Result.andThen_ok]
  simp only [e,ne_eq,not_true_eq_false,if_false]
  exact hst
theorem stS_sound {P:Program} {T:TypeId} {a:SV} {x:Value} {K:List Box → List HO → Prop} (hP:E.P = P) (h:stS L H (szT P T) a x K) (r:Rel E.w0 bs ks L H w) (hop:dr = true → storeLike op = true):
  ∃ L' H' w',K L' H' ∧ (Instr.storeAt T (a.real bs) x).run P w = .ok () w' ∧ Next' E dr op bs bs ks L L' H H' w w':=by
 subst hP
 obtain ⟨hs,h1,h⟩:=h
 split at h
 ·rename_i j o
  obtain ⟨hj,hle,hK⟩:=h
  obtain ⟨T',hT⟩:=boxAt_get L j hj
  have hb:=r.box j T' _ hT
  have hrun:=storeVar_run (P:=E.P) (off:=o) hs h1 hb (by simpa using hle)
  refine ⟨_,_,w.setRow (bs j) ((boxAt L j).take o ++ vcells x ++ (boxAt L j).drop (o + (vcells x).length)).toArray,hK,?_,⟨⟨fun _ _=>rfl,by rw [length_lset]; exact Nat.le_refl _,⟨(Keep.setRow _).mono fun b e=>.inr ⟨j,hj,e⟩,fun _ h=>.inl h,fun _ h=>.inl h,fun i hi=>.inl ⟨i,by rwa [length_lset] at hi,rfl⟩⟩⟩,r.setBox hT (Keep.setRow _) ?_,fun e1 e2=>by rw [hop e1] at e2; cases e2⟩⟩
  ·simp only [Instr.storeAt,Instr.sureAddr,SV.real,Sem.run_bind,Sem.run_pure,Result.andThen_ok]
   exact hrun
  ·exact setRow_heap w _ _ _ _ _ hb
 ·rename_i ad
  obtain ⟨A,hh,B,h',rfl,⟨hfp,hw⟩,hK⟩:=h
  obtain ⟨b,off,cs,T',rfl,hb,hc,hle,hok⟩:=hw w (r.hp.ok hh (by simp))
  have hrun:=storeVar_run (P:=E.P) hs h1 hc hle
  have hk:=Keep.setRow (w:=w) (b:=b) (cs.toList.take off ++ vcells x ++ cs.toList.drop (off + (vcells x).length)).toArray
  have hnd:=List.pairwise_append.1 r.hp.nd
  have hnd2:=List.pairwise_cons.1 hnd.2.1
  have hsame:∀ g ∈ A ++ B,SameOn g.fp w (w.setRow b (cs.toList.take off ++ vcells x ++ cs.toList.drop (off + (vcells x).length)).toArray):=by
   intro g hg
   refine hk.sameOn (fun c hc=>HO.lt (r.hp.ok g ?_) hc) fun c hgc e=>?_
   ·rcases List.mem_append.1 hg with hg | hg <;> simp [hg]
   ·subst e
    rcases List.mem_append.1 hg with hg | hg
    ·exact (hnd.2.2 g hg hh (by simp) _ hgc (HO.fp_of_fpx hb)).2 hb
    ·exact (hnd2.1 g hg _ (HO.fp_of_fpx hb) hgc).1 hb
  have hp':Hp E.w0 (A ++ h' :: B) (w.setRow b (cs.toList.take off ++ vcells x ++ cs.toList.drop (off + (vcells x).length)).toArray):=by
   refine ⟨hk.into r.hp.ext (fun c e=>e ▸ r.hp.old hh (by simp) _ hb),fun g hg=>?_,fun g hg c hc=>?_,?_⟩
   ·rcases List.mem_append.1 hg with hg | hg
    ·exact HO.stable (r.hp.ok g (by simp [hg])) (hsame g (by simp [hg]))
    ·rcases List.mem_cons.1 hg with rfl | hg
     ·exact hok _ (setRow_heap w _ _ _ _ _ hc) (fun c _ hne=>setRow_other w b c _ hne) (by simp [World.setRow])
     ·exact HO.stable (r.hp.ok g (by simp [hg])) (hsame g (by simp [hg]))
   ·rcases List.mem_append.1 hg with hg | hg
    ·exact r.hp.old g (by simp [hg]) c hc
    ·rcases List.mem_cons.1 hg with rfl | hg
     ·exact r.hp.old hh (by simp) c ((hfp c).2.1 hc)
     ·exact r.hp.old g (by simp [hg]) c hc
   ·refine List.pairwise_append.2 ⟨hnd.1,List.pairwise_cons.2 ⟨fun g hg c hc hc'=>⟨fun hx=>(hnd2.1 g hg c ((hfp c).1.1 hc) hc').1 ((hfp c).2.1 hx),(hnd2.1 g hg c ((hfp c).1.1 hc) hc').2⟩,hnd2.2⟩,fun g hg g' hg' c hc hc'=>?_⟩
    rcases List.mem_cons.1 hg' with rfl | hg'
    ·exact ⟨(hnd.2.2 g hg hh (by simp) c hc ((hfp c).1.1 hc')).1,fun hx=>(hnd.2.2 g hg hh (by simp) c hc ((hfp c).1.1 hc')).2 ((hfp c).2.1 hx)⟩
    ·exact hnd.2.2 g hg g' (by simp [hg']) c hc hc'
  have hfx:∀ c,fpsx (A ++ h' :: B) c → fpsx (A ++ hh :: B) c:=by
   rintro c ⟨g,hg,hc⟩
   rcases List.mem_append.1 hg with hg | hg
   ·exact ⟨g,by simp [hg],hc⟩
   ·rcases List.mem_cons.1 hg with rfl | hg
    ·exact ⟨hh,by simp,(hfp c).2.1 hc⟩
    ·exact ⟨g,by simp [hg],hc⟩
  have hff:∀ g ∈ A ++ h' :: B,∀ c,g.fp c → fps (A ++ hh :: B) c:=fun g hg c hc=>?_
  refine ⟨_,_,_,hK,?_,⟨⟨fun _ _=>rfl,Nat.le_refl _,⟨hk.mono fun c e=>.inl ⟨hh,by simp,e ▸ hb⟩,fun c ⟨g,hg,hc⟩=>.inl (hff g hg c hc),fun c hc=>.inl (hfx c hc),fun j hj=>.inl ⟨j,hj,rfl⟩⟩⟩,r.keep hk (fun c e=>⟨hh,by simp,e ▸ hb⟩) hp' (fun g hg c hc=>.inl (hff g hg c hc)),fun e1 e2=>by rw [hop e1] at e2; cases e2⟩⟩
  ·simp only [Instr.storeAt,Instr.sureAddr,SV.real,Sem.run_bind,Sem.run_pure,Result.andThen_ok]
   exact hrun
  ·rcases List.mem_append.1 hg with hg | hg
   ·exact ⟨g,by simp [hg],hc⟩
   ·rcases List.mem_cons.1 hg with rfl | hg
    ·exact ⟨hh,by simp,(hfp c).1.1 hc⟩
    ·exact ⟨g,by simp [hg],hc⟩
 ·exact h.elim
theorem Next'.swap {A B:List HO} {hh h':HO} {b:Nat} {w':World} (r:Rel E.w0 bs ks L (A ++ hh :: B) w) (hk:Keep (fun k=>k = b) w w') (hb:hh.fpx b) (hfp:∀ c,(h'.fp c ↔ hh.fp c) ∧ (h'.fpx c ↔ hh.fpx c)) (hok:h'.ok w') (hop:dr = true → storeLike op = true):
  Next' E dr op bs bs ks L L (A ++ hh :: B) (A ++ h' :: B) w w':=by
 have hnd:=List.pairwise_append.1 r.hp.nd
 have hnd2:=List.pairwise_cons.1 hnd.2.1
 have hsame:∀ g ∈ A ++ B,SameOn g.fp w w':=by
  intro g hg
  refine hk.sameOn (fun c hc=>HO.lt (r.hp.ok g ?_) hc) fun c hgc e=>?_
  ·rcases List.mem_append.1 hg with hg | hg <;> simp [hg]
  ·subst e
   rcases List.mem_append.1 hg with hg | hg
   ·exact (hnd.2.2 g hg hh (by simp) _ hgc (HO.fp_of_fpx hb)).2 hb
   ·exact (hnd2.1 g hg _ (HO.fp_of_fpx hb) hgc).1 hb
 have hp':Hp E.w0 (A ++ h' :: B) w':=by
  refine ⟨hk.into r.hp.ext (fun c e=>e ▸ r.hp.old hh (by simp) _ hb),fun g hg=>?_,fun g hg c hc=>?_,?_⟩
  ·rcases List.mem_append.1 hg with hg | hg
   ·exact HO.stable (r.hp.ok g (by simp [hg])) (hsame g (by simp [hg]))
   ·rcases List.mem_cons.1 hg with rfl | hg
    ·exact hok
    ·exact HO.stable (r.hp.ok g (by simp [hg])) (hsame g (by simp [hg]))
  ·rcases List.mem_append.1 hg with hg | hg
   ·exact r.hp.old g (by simp [hg]) c hc
   ·rcases List.mem_cons.1 hg with rfl | hg
    ·exact r.hp.old hh (by simp) c ((hfp c).2.1 hc)
    ·exact r.hp.old g (by simp [hg]) c hc
  ·refine List.pairwise_append.2 ⟨hnd.1,List.pairwise_cons.2 ⟨fun g hg c hc hc'=>⟨fun hx=>(hnd2.1 g hg c ((hfp c).1.1 hc) hc').1 ((hfp c).2.1 hx),(hnd2.1 g hg c ((hfp c).1.1 hc) hc').2⟩,hnd2.2⟩,fun g hg g' hg' c hc hc'=>?_⟩
   rcases List.mem_cons.1 hg' with rfl | hg'
   ·exact ⟨(hnd.2.2 g hg hh (by simp) c hc ((hfp c).1.1 hc')).1,fun hx=>(hnd.2.2 g hg hh (by simp) c hc ((hfp c).1.1 hc')).2 ((hfp c).2.1 hx)⟩
   ·exact hnd.2.2 g hg g' (by simp [hg']) c hc hc'
 have hfx:∀ c,fpsx (A ++ h' :: B) c → fpsx (A ++ hh :: B) c:=by
  rintro c ⟨g,hg,hc⟩
  rcases List.mem_append.1 hg with hg | hg
  ·exact ⟨g,by simp [hg],hc⟩
  ·rcases List.mem_cons.1 hg with rfl | hg
   ·exact ⟨hh,by simp,(hfp c).2.1 hc⟩
   ·exact ⟨g,by simp [hg],hc⟩
 have hff:∀ g ∈ A ++ h' :: B,∀ c,g.fp c → fps (A ++ hh :: B) c:=fun g hg c hc=>by
  rcases List.mem_append.1 hg with hg | hg
  ·exact ⟨g,by simp [hg],hc⟩
  ·rcases List.mem_cons.1 hg with rfl | hg
   ·exact ⟨hh,by simp,(hfp c).1.1 hc⟩
   ·exact ⟨g,by simp [hg],hc⟩
 exact ⟨⟨fun _ _=>rfl,Nat.le_refl _,⟨hk.mono fun c e=>.inl ⟨hh,by simp,e ▸ hb⟩,fun c ⟨g,hg,hc⟩=>.inl (hff g hg c hc),fun c hc=>.inl (hfx c hc),fun j hj=>.inl ⟨j,hj,rfl⟩⟩⟩,r.keep hk (fun c e=>⟨hh,by simp,e ▸ hb⟩) hp' (fun g hg c hc=>.inl (hff g hg c hc)),fun e1 e2=>by rw [hop e1] at e2; cases e2⟩
theorem mkS_sound {P:Program} {T:TypeId} {n c:Value} (h:mkS (elT P T) n c L H k) (r:Rel E.w0 bs ks L H w):
  ∃ v w' H',k (.v v) L H' ∧ (Instr.makeSlice T n c).run P w = .ok v w' ∧ Next' E dr op bs bs ks L L H H' w w':=by
 unfold mkS at h
 split at h
 ·rename_i e sz z bytes kn n kc c hk
  obtain ⟨h0,hnc,hb,hK⟩:=h
  obtain ⟨i,zv,hu,hi,hz,rfl,hzc,rfl,hsz,hzl,hby⟩:=elT_some hk
  have hb1:(1:Int) ≤ i.bytes:=by omega
  have hc:c ≤ c * (i.bytes:Int):=by
   have:=Int.mul_le_mul_of_nonneg_left hb1 (Int.le_trans h0 hnc)
   simpa using this
  have hrun:=run_make (P:=P) w T e i zv hu hi hz kn kc n c h0 hnc (by rw [Int.mul_comm]; omega) (by omega)
  have hcells:zv.cells = z.toArray:=by rw [← hzc]
  have hmk:madeCells zv.cells (c.toNat * i.size) = (zerosL c.toNat z).toArray:=by rw [hcells,← hzl]; exact madeCells_zerosL z c.toNat
  rw [hmk] at hrun
  refine ⟨_,_,_,hK w.heap.size,hrun,Next'.newHO r (Keep.alloc _ w _) (.inr ⟨w.heap.size,0,n.toNat,c.toNat,_,rfl,heap_alloc_new w _,?_,?_,?_,?_,?_⟩) fun b hb=>?_⟩
  ·rw [length_zerosL,hzl]
  ·omega
  ·simp only [maxLen]; omega
  ·simp [length_zerosL,hzl]
  ·simp only [List.drop_zero]
   have:c.toNat = n.toNat + (c.toNat - n.toNat):=by omega
   rw [this,zerosL,← List.replicate_append_replicate,List.flatten_append]
   rw [← hzl,← length_zerosL]
   exact List.take_left
  ·simp [HO.fp,Value.ownBlock] at hb; omega
 ·exact h.elim
theorem bsS_sound {P:Program} {T:TypeId} {n:Nat} {ps:List (Nat × Value)} (h:bsS (elT P T) n ps L H k) (r:Rel E.w0 bs ks L H w):
  ∃ v w' H',k (.v v) L H' ∧ (Instr.buildSlice T n ps.toArray).run P w = .ok v w' ∧ Next' E dr op bs bs ks L L H H' w w':=by
 unfold bsS at h
 split at h
 ·rename_i e sz z bytes hk
  obtain ⟨hlim,cs,hfill,hK⟩:=h
  obtain ⟨i,zv,hu,hi,hz,rfl,hzc,rfl,hsz,hzl,hby⟩:=elT_some hk
  have hcells:zv.cells = z.toArray:=by rw [← hzc]
  have hf:=fillS_fill' (pf:=fun j=>some (j * i.size,i.size)) (fun j x hj=>by
   rw [List.getElem?_map] at hj
   cases hr:(List.range n)[j]? with
   | none=>simp [hr] at hj
   | some y=>
    have hy:y = j:=by
     have:=List.getElem?_range (n:=n) (i:=j)
     rw [List.getElem?_eq_some_iff] at hr
     obtain ⟨h1,h2⟩:=hr
     simpa using h2.symm
    simp [hr,hy] at hj
    exact congrArg some hj) ps _ _ hfill
  have hlen:cs.length = n * i.size:=by
   have key:∀ (ps:List (Nat × Value)) (c r:List Value),fillS ((List.range n).map fun j=>(j * i.size,i.size)) c ps = some r → r.length = c.length:=by
    intro ps
    induction ps with
    | nil=>intro c r h; simp only [fillS,Option.some.injEq] at h; rw [h]
    | cons p ps ih=>
     intro c r h
     obtain ⟨j,v⟩:=p
     simp only [fillS] at h
     split at h
     ·split at h
      ·rename_i hc
       rw [ih _ _ h]
       simp only [List.length_append,List.length_take,List.length_drop]
       omega
      ·cases h
     ·cases h
   rw [key ps _ _ hfill,length_zerosL,hzl]
  have hmk:∀ zz:Array Value,(n * i.size = 0 ∨ zz = z.toArray) → (Array.range (n * i.size)).map (fun x=>zz[x % zz.size]!) = (zerosL n z).toArray:=by
   intro zz hzz
   by_cases h0:n * i.size = 0
   ·have:zerosL n z = []:=List.eq_nil_of_length_eq_zero (by rw [length_zerosL,hzl,h0])
    rw [this,h0]
    simp
   ·rcases hzz with hzz | rfl
    ·exact absurd hzz h0
    ·rw [← madeCells_zerosL,hzl]
     rfl
  have hrun:(Instr.buildSlice T n ps.toArray).run P w = .ok (.slice (some ⟨w.heap.size,0,none⟩) n n) (w.alloc (.cells cs.toArray e)):=by
   have hlim':¬ 2 ^ 24 < n * i.size:=by omega
   by_cases h0:n * i.size = 0
   ·have h1:zerosL n z = []:=List.eq_nil_of_length_eq_zero (by rw [length_zerosL,hzl,h0])
    rw [h1] at hf
    have h2:(Array.range 0).map (fun _:Nat=>(default:Value)) = #[]:=by simp [Array.range_zero']
    simp [Instr.buildSlice,run_underlying hu,run_size hi,h0,h2,hf,newRow]
   ·have h1:=hmk z.toArray (.inr rfl)
    simp at h1
    simp [Instr.buildSlice,run_underlying hu,run_size hi,hlim',h0,zeroValue,typeInfo,hi,hz,hcells,h1,hf,newRow]
  have hn24:n ≤ 16777216:=Nat.le_trans (Nat.le_mul_of_pos_right _ (by omega)) hlim
  refine ⟨_,_,_,hK w.heap.size,hrun,Next'.newHO r (Keep.alloc _ w _) (.inr ⟨w.heap.size,0,n,n,_,rfl,heap_alloc_new w _,hlen,Nat.le_refl _,?_,?_,?_⟩) fun b hb=>?_⟩
  ·simp only [maxLen]; omega
  ·simp [hlen]
  ·simp only [List.drop_zero]
   rw [← hlen]
   exact List.take_length
  ·simp [HO.fp,Value.ownBlock] at hb; omega
 ·exact h.elim
def Goes (E:Env) (dr:Bool) (op:Op) (bs:Nat → Nat) (ks:List (Nat × Obj)) (L:List Box) (H:List HO) (w:World) (k:SV → List Box → List HO → Prop) (N:Value → World → Prop):Prop:=
 ∀ s bs' L' H' w',k s L' H' → s.wf L'.length → Next' E dr op bs bs' ks L L' H H' w w' → N (s.real bs') w'
theorem callOb_sound {rd:Option Nat} {tg:Tg} {args:List Value} {N:Value → World → Prop} {a:Act} {o:Oper} {Q:Exit → Act → World → Prop} {next:Act → World → Prop} {nx:Go.Next}
  (h:CallOb E.P E.w0 dr tg args H fun v H=>k (.v v) L H) (r:Rel E.w0 bs ks L H w) (hn:Goes E dr op bs ks L H w k N) (hN:∀ v w',N v w' → next (a.put o.dst v) w')
  (hx:(∃ f,tg = .fn f ∧ nx = .enter f args.toArray) ∨ ∃ l,tg = .yield l) (hy:∀ l,tg = .yield l → ∀ fn tmps assign body w1,(Instr.yield l args.toArray).run E.P w = .ok (.round l fn tmps assign body) w1 → nx = .round l fn tmps assign body):
  o.uponIn (fence rd) 0 E.P a next Q (.ok nx w):=by
 have hw:=h w r.hp
 have key:∀ e w',(∃ v M H',e = Ending.returned v ∧ Keep M w w' ∧ (∀ b,M b → fpsx H b) ∧ Hp E.w0 H' w' ∧ (∀ h ∈ H',∀ b,(h.fp b → fps H b ∨ w.heap.size ≤ b) ∧ (h.fpx b → fpsx H b ∨ w.heap.size ≤ b)) ∧ (dr = true → ∀ x ∈ H,x ∈ H') ∧ k (.v v) L H') →
   (match e,w' with
    | .returned v,w''=>next (a.put o.dst v) w''
    | .panicked chain,w''=>Q (.panic chain) a w''
    | .outgrown,_=>LetsOut Q:Prop):=by
  rintro e w' ⟨v,M,H',rfl,hk,hM,hp,hf,hd,hK⟩
  exact hN _ _ (hn (.v v) bs L H' w' hK trivial ⟨⟨fun _ _=>rfl,Nat.le_refl _,⟨hk.mono fun b hb=>.inl (hM b hb),fun b ⟨h,hh,hb⟩=>(hf h hh b).1 hb,fun b ⟨h,hh,hb⟩=>(hf h hh b).2 hb,fun j hj=>.inl ⟨j,hj,rfl⟩⟩⟩,r.keep hk hM hp (fun h hh b=>(hf h hh b).1),fun e1 _=>⟨List.prefix_refl _,hd e1⟩⟩)
 rcases hx with ⟨f,rfl,rfl⟩ | ⟨l,rfl⟩
 ·simp only [Invokes] at hw
  rw [Oper.uponIn_enter]
  refine ⟨fun h=>by simp [fence,Fence.wide] at h,fence_calls (Calls.mono hw fun e w' he=>?_)⟩
  have:=key e w' he
  cases e <;> exact this
 ·simp only [Invokes] at hw
  obtain ⟨fn,tmps,assign,body,hrun,hround⟩:=hw
  rw [hy l rfl fn tmps assign body w hrun,Oper.uponIn_round]
  refine ⟨fun h=>by simp [fence,Fence.wide] at h,fence_round (RoundIn.mono hround fun e w' he=>?_)⟩
  have:=key e w' he
  cases e <;> exact this
theorem map_ops {fr:List SV} {ρ:Operand → Value} {args:List Operand} {vs:List Value} (hv:∀ bs,(args.map (op1 fr)).map (SV.real bs) = vs) (hρ:∀ x ∈ args,ρ x = (op1 fr x).real bs):args.map ρ = vs:=by
 rw [← hv bs,List.map_map]
 exact List.map_congr_left fun x hx=>hρ x hx
theorem chain_sound (hD:E.DetOk) {fr:List SV} {d:Option Nat} (h:chainOp E dr fr L H d op k) (r:Rel E.w0 bs ks L H w) {ρ:Operand → Value} {o:Oper} (hρ:∀ x ∈ op.operands,ρ x = (op1 fr x).real bs) (ho:o.op = op)
  {rd:Option Nat} {a:Act} {next:Act → World → Prop} {Q:Exit → Act → World → Prop} (hn:Goes E dr op bs ks L H w k fun v w'=>next (a.put o.dst v) w'):
  o.uponIn (fence rd) 0 E.P a next Q ((execOp ρ o).run E.P w):=by
 unfold chainOp at h
 split at h
 ·rename_i T
  obtain ⟨z,hz,h⟩:=h
  obtain ⟨s,bs',L',H',hk,hw,hs,hx⟩:=newBox_sound (dr:=dr) (op:=.alloc T) h r
  unfold zeroT at hz
  cases hi:E.P.info? T with
  | none=>simp [hi] at hz
  | some i=>
   simp only [hi,Option.map_eq_some_iff] at hz
   obtain ⟨v,hv,rfl⟩:=hz
   have hrun:(Instr.alloc T true (.tuple #[])).run E.P w = .ok (.pointer (some ⟨w.heap.size,0,none⟩)) (w.alloc (.cells v.cells.toList.toArray T)):=by
    simp [Instr.alloc,zeroValue,typeInfo,hi,hv,newVar,newRow]
   simp only [execOp,ho,run_v' hrun]
   rw [← hs]
   exact hn s bs' L' H' _ hk hw hx
 ·rename_i T x
  obtain ⟨vx,hvx,h⟩:=withV_iff h
  obtain ⟨s,bs',L',H',hk,hw,hs,hx⟩:=newBox_sound (dr:=dr) (op:=.box T x) h r
  have h1:=hρ x (by simp [Op.operands])
  rw [hvx] at h1
  have hrun:(Instr.box T vx).run E.P w = .ok (.pointer (some ⟨w.heap.size,0,none⟩)) (w.alloc (.cells (vcells vx).toArray T)):=by
   simp [Instr.box,newVar,newRow,vcells]
  simp only [execOp,ho,h1,run_v' hrun]
  rw [← hs]
  exact hn s bs' L' H' _ hk hw hx
 ·rename_i T ad x
  obtain ⟨vx,hvx,h⟩:=withV_iff h
  obtain ⟨L',H',w',hk,hrun,hx⟩:=stS_sound (dr:=dr) (op:=.store T ad x) rfl h r (fun _=>rfl)
  have h1:=hρ x (by simp [Op.operands])
  have h2:=hρ ad (by simp [Op.operands])
  rw [hvx] at h1
  simp only [execOp,ho,h1,h2,run_u hrun]
  exact hn (.v undef) bs L' H' w' hk trivial hx
 ·rename_i T n ps
  obtain ⟨xs,hxs,h⟩:=withVs_iff h
  obtain ⟨v,w',H',hk,hrun,hx⟩:=bsS_sound (dr:=dr) (op:=.buildSlice T n ps) (P:=E.P) h r
  have e:(ps.map fun (p:Nat × Operand)=>(p.1,ρ p.2)) = ((ps.toList.map (·.1)).zip xs).toArray:=by
   apply Array.ext'
   rw [← hxs bs]
   simp only [Array.toList_map,List.map_map]
   rw [List.zip_map']
   refine List.map_congr_left fun p hpm=>?_
   simp only [Function.comp]
   rw [hρ p.2 (by simp [Op.operands]; exact ⟨p.1,by simpa using hpm⟩)]
  have e':(ps.map fun (x:Nat × Operand)=>match x with | (i,x)=>(i,ρ x)) = (ps.map fun (p:Nat × Operand)=>(p.1,ρ p.2)):=rfl
  simp only [execOp,ho,e',e,run_v' hrun]
  exact hn (.v v) bs L H' w' hk trivial hx
 ·rename_i T n c
  obtain ⟨vn,hvn,h⟩:=withV_iff h
  obtain ⟨vc,hvc,h⟩:=withV_iff h
  obtain ⟨v,w',H',hk,hrun,hx⟩:=mkS_sound (dr:=dr) (op:=.makeSlice T n c) (P:=E.P) h r
  have h1:=hρ n (by simp [Op.operands])
  have h2:=hρ c (by simp [Op.operands])
  rw [hvn] at h1
  rw [hvc] at h2
  simp only [execOp,ho,h1,h2,run_v' hrun]
  exact hn (.v v) bs L H' w' hk trivial hx
 ·rename_i c
  obtain ⟨ce,⟨as⟩,⟨ts⟩⟩:=c
  simp only [] at h
  unfold calS at h
  split at h
  ·rename_i f
   obtain ⟨vs,hvs,h⟩:=withVs_iff h
   have hf:=hρ f (by simp [Op.operands,Call.operands])
   have has:as.map ρ = vs:=map_ops hvs fun x hx=>hρ x (by simp [Op.operands,Call.operands,hx])
   unfold invS at h
   split at h
   ·rename_i g first cap hfv
    obtain ⟨hT,h⟩:=h
    rw [hfv] at hf
    have hrun:(execOp ρ o).run E.P w = .ok (.enter g (first.toList ++ vs ++ cap.toList).toArray) w:=by
     simp only [execOp,ho,resolve,hf,SV.real,List.map_toArray,has,Deferred.ofValue,Sem.run_bind,Sem.run_pure,Result.andThen_ok,invoke]
     rw [hT]
     congr 3
     apply Array.ext'
     simp
    rw [hrun]
    unfold callS at h
    split at h
    ·rename_i v hv
     have hc:=hD g _ v hv w r.hp.ext
     rw [Oper.uponIn_enter]
     refine ⟨fun h=>by simp [fence,Fence.wide] at h,fence_calls (Calls.mono hc fun e w' he=>?_)⟩
     obtain ⟨rfl,hk⟩:=he
     refine hn (.v v) bs L H w' h trivial ⟨⟨fun _ _=>rfl,Nat.le_refl _,Frm.new hk fun x hx _ _=>.inl hx⟩,r.keep hk (fun _ h=>h.elim) (r.hp.keep hk) (fun x hx b hb=>.inl ⟨x,hx,hb⟩),fun _ _=>⟨List.prefix_refl _,fun _ h=>h⟩⟩
    ·exact callOb_sound h r hn (fun v w' h=>h) (.inl ⟨g,rfl,rfl⟩) (fun l hl=>by cases hl)
   ·rename_i l first cap hfv
    rw [hfv] at hf
    have hrun:(execOp ρ o).run E.P w = (Instr.yield l (first.toList ++ vs).toArray).run E.P w:=by
     simp only [execOp,ho,resolve,hf,SV.real,List.map_toArray,has,Deferred.ofValue,Sem.run_bind,Sem.run_pure,Result.andThen_ok,invoke]
     congr 2
     apply Array.ext'
     simp
    obtain ⟨fn,tmps,assign,body,hy,_⟩:=h w r.hp
    rw [hrun,hy]
    refine callOb_sound h r hn (fun v w' h=>h) (.inr ⟨l,rfl⟩) fun l' hl fn' tmps' assign' body' w1 h1=>?_
    cases hl
    rw [hy] at h1
    simp only [Result.ok.injEq] at h1
    exact h1.1
   ·exact h.elim
  ·rename_i aa x T T'
   obtain ⟨va,hva,h⟩:=withV_iff h
   obtain ⟨vx,hvx,h⟩:=withV_iff h
   have h1:=hρ aa (by simp [Op.operands,Call.operands])
   have h2:=hρ x (by simp [Op.operands,Call.operands])
   rw [hva] at h1
   rw [hvx] at h2
   obtain ⟨v,M,H',w',hrun,hk,hM,hp,hfp,hK⟩:=h w o.type r.hp
   have hexec:(execOp ρ o).run E.P w = .ok (.value v) w':=by
    simp only [execOp,ho,resolve,invoke,builtin,Sem.run_bind,Sem.run_pure,Result.andThen_ok,List.map_toArray,List.map_cons,List.map_nil,h1,h2,hrun]
   rw [hexec]
   have hff:∀ y ∈ H',∀ b,y.fp b → fps H b ∨ w.heap.size ≤ b:=fun y hy b hb=>(hfp y hy b).1 hb
   have hfx:∀ b,fpsx H' b → fpsx H b ∨ w.heap.size ≤ b:=fun b ⟨y,hy,hb⟩=>(hfp y hy b).2 hb
   exact hn (.v _) bs L _ w' hK trivial ⟨⟨fun _ _=>rfl,Nat.le_refl _,⟨hk.mono fun b hb=>.inl (hM b hb),fun b ⟨y,hy,hb⟩=>hff y hy b hb,hfx,fun j hj=>.inl ⟨j,hj,rfl⟩⟩⟩,r.keep hk hM hp hff,fun _ e2=>by cases e2⟩
  ·rename_i s x T T'
   obtain ⟨rfl,h⟩:=h
   obtain ⟨vs,hvs,h⟩:=withV_iff h
   obtain ⟨vx,hvx,h⟩:=withV_iff h
   have h1:=hρ s (by simp [Op.operands,Call.operands])
   have h2:=hρ x (by simp [Op.operands,Call.operands])
   rw [hvs] at h1
   rw [hvx] at h2
   unfold AppOb at h
   split at h
   ·rename_i e sz z bytes hk
    rcases h with h | h
    rotate_left
    ·obtain ⟨sa,n,m,xs,ys,rfl,hn',hm',h0,hss,hsl,hb,hK⟩:=h
     obtain ⟨c,w',hrun,hrow,hkeep⟩:=append_ro hk (hss w r.hp) hn' hm' h0 (hsl w r.hp) hb o.type
     have hexec:(execOp ρ o).run E.P w = .ok (.value (.slice (some ⟨w.heap.size,0,none⟩) (n + m) c)) w':=by
      simp only [execOp,ho,resolve,invoke,builtin,Sem.run_bind,Sem.run_pure,Result.andThen_ok,List.map_toArray,List.map_cons,List.map_nil,h1,h2,hrun]
     rw [hexec]
     refine hn (.v _) bs L _ w' (hK w.heap.size c r.hp.ext.size hrow.cap) trivial (Next'.newHO r hkeep hrow fun b hb=>?_)
     simp [HO.fp,Value.ownBlock] at hb
     omega
    obtain ⟨n,m,xs,ys,A,hi,hn',hm',hsl,h1c,hb,hK⟩:=h
    have hp':=(hi w r.hp).1
    have hrow:RowOk w vs e sz xs:=hp'.ok (.row vs e sz xs) List.mem_cons_self
    obtain ⟨ad,c,w',hnil,hrun,hrow',hkeep,hown⟩:=append_run hk hrow hn' hm' (hsl w r.hp) h1c hb o.type
    have hexec:(execOp ρ o).run E.P w = .ok (.value (.slice ad (n + m) c)) w':=by
     simp only [execOp,ho,resolve,invoke,builtin,Sem.run_bind,Sem.run_pure,Result.andThen_ok,List.map_toArray,List.map_cons,List.map_nil,h1,h2,hrun]
    rw [hexec]
    have hpA:=List.pairwise_cons.1 hp'.nd
    have hbl:∀ b,vs.ownBlock = some b → fpsx H b:=fun b hb=>(hi w r.hp).2.2 b ⟨_,List.mem_cons_self,hb⟩
    have hff:∀ y ∈ HO.row (.slice ad (n + m) c) e sz (xs ++ ys) :: A,∀ b,y.fp b → fps H b ∨ w.heap.size ≤ b:=fun y hy b hb=>?_
    have hfx:∀ b,fpsx (HO.row (.slice ad (n + m) c) e sz (xs ++ ys) :: A) b → fpsx H b ∨ w.heap.size ≤ b:=by
     rintro b ⟨y,hy,hb⟩
     rcases List.mem_cons.1 hy with rfl | hy
     ·rcases hown b hb with hb | hb
      ·exact .inl (hbl b hb)
      ·exact .inr hb
     ·exact .inl ((hi w r.hp).2.2 b ⟨y,List.mem_cons_of_mem _ hy,hb⟩)
    refine hn (.v _) bs L _ w' (hK ad c hnil hrow'.cap fun b hb=>(hown b hb).imp id (Nat.le_trans r.hp.ext.size)) trivial ⟨⟨fun _ _=>rfl,Nat.le_refl _,⟨hkeep.mono fun b hb=>.inl (hbl b hb),fun b ⟨y,hy,hb⟩=>hff y hy b hb,hfx,fun j hj=>.inl ⟨j,hj,rfl⟩⟩⟩,r.keep hkeep hbl ⟨hkeep.into r.hp.ext (fun b hb=>hp'.old _ List.mem_cons_self b hb),fun y hy=>?_,fun y hy b hb=>?_,List.pairwise_cons.2 ⟨fun y hy b hb hb'=>?_,hpA.2⟩⟩ hff,fun _ e2=>by cases e2⟩
    ·rcases List.mem_cons.1 hy with rfl | hy
     ·exact hrow'
     ·exact HO.stable (hp'.ok y (List.mem_cons_of_mem _ hy)) (hkeep.sameOn (fun _ hb=>HO.lt (hp'.ok y (List.mem_cons_of_mem _ hy)) hb) fun b hb hb'=>(hpA.1 y hy b hb' hb).1 hb')
    ·rcases List.mem_cons.1 hy with rfl | hy
     ·rcases hown b hb with hb | hb
      ·exact hp'.old _ List.mem_cons_self b hb
      ·exact .inr (Nat.le_trans r.hp.ext.size hb)
     ·exact hp'.old y (List.mem_cons_of_mem _ hy) b hb
    ·rcases hown b hb with hb | hb
     ·exact ⟨fun _=>(hpA.1 y hy b hb hb').1 hb,(hpA.1 y hy b hb hb').2⟩
     ·have:=HO.lt (hp'.ok y (List.mem_cons_of_mem _ hy)) hb'
      omega
    ·rcases List.mem_cons.1 hy with rfl | hy
     ·rcases hown b hb with hb | hb
      ·exact .inl (fps_of_fpsx (hbl b hb))
      ·exact .inr hb
     ·exact .inl ((hi w r.hp).2.1 b ⟨y,List.mem_cons_of_mem _ hy,hb⟩)
   ·exact h.elim
  ·rename_i aa T
   obtain ⟨va,hva,h⟩:=withV_iff h
   have h1:=hρ aa (by simp [Op.operands,Call.operands])
   rw [hva] at h1
   obtain ⟨v,M,H',w',hrun,hk,hM,hp,hfp,hK⟩:=h w o.type r.hp
   have hexec:(execOp ρ o).run E.P w = .ok (.value v) w':=by
    simp only [execOp,ho,resolve,invoke,builtin,Sem.run_bind,Sem.run_pure,Result.andThen_ok,List.map_toArray,List.map_cons,List.map_nil,h1,hrun]
   rw [hexec]
   have hff:∀ y ∈ H',∀ b,y.fp b → fps H b ∨ w.heap.size ≤ b:=fun y hy b hb=>(hfp y hy b).1 hb
   have hfx:∀ b,fpsx H' b → fpsx H b ∨ w.heap.size ≤ b:=fun b ⟨y,hy,hb⟩=>(hfp y hy b).2 hb
   exact hn (.v _) bs L _ w' hK trivial ⟨⟨fun _ _=>rfl,Nat.le_refl _,⟨hk.mono fun b hb=>.inl (hM b hb),fun b ⟨y,hy,hb⟩=>hff y hy b hb,hfx,fun j hj=>.inl ⟨j,hj,rfl⟩⟩⟩,r.keep hk hM hp hff,fun _ e2=>by cases e2⟩
  ·exact h.elim
 ·rename_i T
  have hrun:(Instr.makeMap T none).run E.P w = .ok (.map (some w.heap.size)) (w.alloc (.map #[] 0)):=rfl
  simp only [execOp,ho,Option.map_none,run_v' hrun]
  exact hn (.v (.map (some w.heap.size))) bs L _ _ (h w.heap.size) trivial (Next'.newHO r (Keep.alloc _ w _) (heap_alloc_new w _) fun b e=>Nat.le_of_eq e.symm)
 ·rename_i T m key x
  obtain ⟨vm,hvm,h⟩:=withV_iff h
  obtain ⟨vk,hvk,h⟩:=withV_iff h
  obtain ⟨vx,hvx,h⟩:=withV_iff h
  obtain ⟨A,b,es,c,B,es',c',rfl,hrun,hK⟩:=h
  have hb:w.heap[b]? = some (.map es c):=r.hp.ok (.obj b (.map es c)) (by simp)
  have hrun:=hrun w hb
  have h1:=hρ m (by simp [Op.operands])
  have h2:=hρ key (by simp [Op.operands])
  have h3:=hρ x (by simp [Op.operands])
  rw [hvm] at h1
  rw [hvk] at h2
  rw [hvx] at h3
  simp only [execOp,ho,h1,h2,h3,run_u hrun]
  have hlt:=lt_of_heap hb
  refine hn (.v undef) bs L _ _ hK trivial (Next'.swap (b:=b) (hh:=.obj b (.map es c)) r ⟨rfl,rfl,rfl,by simp,fun k _ hne=>by simp [Ne.symm hne]⟩ rfl (fun c=>⟨Iff.rfl,Iff.rfl⟩) ?_ (fun _=>rfl))
  simp [HO.ok,hlt]
 ·rename_i T m key x
  obtain ⟨vm,hvm,h⟩:=withV_iff h
  obtain ⟨vk,hvk,h⟩:=withV_iff h
  obtain ⟨vx,hvx,h⟩:=withV_iff h
  obtain ⟨A,b,es,c,B,es',c',rfl,hrun,hK⟩:=h
  have hb:w.heap[b]? = some (.map es c):=r.hp.ok (.obj b (.map es c)) (by simp)
  have hrun:=hrun w hb
  have h1:=hρ m (by simp [Op.operands])
  have h2:=hρ key (by simp [Op.operands])
  have h3:=hρ x (by simp [Op.operands])
  rw [hvm] at h1
  rw [hvk] at h2
  rw [hvx] at h3
  simp only [execOp,ho,h1,h2,h3,run_u hrun]
  have hlt:=lt_of_heap hb
  refine hn (.v undef) bs L _ _ hK trivial (Next'.swap (b:=b) (hh:=.obj b (.map es c)) r ⟨rfl,rfl,rfl,by simp,fun k _ hne=>by simp [Ne.symm hne]⟩ rfl (fun c=>⟨Iff.rfl,Iff.rfl⟩) ?_ (fun _=>rfl))
  simp [HO.ok,hlt]
 ·rename_i T m key okb
  obtain ⟨vm,hvm,h⟩:=withV_iff h
  obtain ⟨vk,hvk,h⟩:=withV_iff h
  obtain ⟨v,hrun,hK⟩:=h
  have hrun:=hrun w r.hp
  have h1:=hρ m (by simp [Op.operands])
  have h2:=hρ key (by simp [Op.operands])
  rw [hvm] at h1
  rw [hvk] at h2
  simp only [execOp,ho,h1,h2,run_v' hrun]
  exact hn (.v v) bs L H w hK trivial ⟨Come.refl _ _ _ _,r,fun _ _=>⟨List.prefix_refl _,fun _ h=>h⟩⟩
 ·exact h.elim
end
end Go.SX

namespace Go.SX
open Go.RowKit
def isFree:Op → Bool
 | .alloc _=>false
 | .box _ _=>false
 | .store ..=>false
 | .buildSlice ..=>false
 | .makeSlice ..=>false
 | .makeMap ..=>false
 | .insert ..=>false
 | .mapUpdate ..=>false
 | .lookup ..=>false
 | .call c=>match c.callee with
  | .builtin .len=>true
  | .builtin .cap=>true
  | .builtin .max=>true
  | .builtin .min=>true
  | _=>false
 | _=>true
def exec1 (E:Env) (dr:Bool) (fr:List SV) (L:List Box) (H:List HO) (d:Option Nat) (op:Op) (k:SV → List Box → List HO → Prop):Prop:=
 bif isFree op then freeOp E fr L H op fun s=>k s L H else chainOp E dr fr L H d op k
def dstOf (all:List Oper) (j:Nat):Option Nat:=(all[j]?).bind (·.dst)
def gdS (fr:List SV) (d:Option Nat) (want:Bool) (yes no:List SV → Prop):Prop:=
 match d with
 | some d=>match fget fr d with
  | .b t=>bif t == want then yes fr else no fr
  | .v (.bool t)=>(t = want → yes (fset fr d (.b want))) ∧ (t = !want → no (fset fr d (.b !want)))
  | .v (.tuple _)=>no fr
  | _=>False
 | none=>no fr
def execs (E:Env) (dr:Bool) (all:List Oper):List Oper → List SV → List Box → List HO → (List SV → List Box → List HO → Prop) → Prop
 | [],fr,L,H,k=>k fr L H
 | o :: r,fr,L,H,k=>match o.guard with
  | none=>exec1 E dr fr L H o.dst o.op fun s L H=>execs E dr all r (put fr o.dst s) L H k
  | some (j,want)=>gdS fr (dstOf all j) want (fun fr=>exec1 E dr fr L H o.dst o.op fun s L H=>execs E dr all r (put fr o.dst s) L H k) (fun fr=>execs E dr all r (put fr o.dst (.v undef)) L H k)
def FEq (fr fr':List SV):Prop:=fr.length = fr'.length ∧ ∀ t bs,(fget fr t).real bs = (fget fr' t).real bs
theorem FEq.refl (fr:List SV):FEq fr fr:=⟨rfl,fun _ _=>rfl⟩
theorem FEq.symm {a b:List SV} (h:FEq a b):FEq b a:=⟨h.1.symm,fun t bs=>(h.2 t bs).symm⟩
theorem FEq.trans {a b c:List SV} (h:FEq a b) (k:FEq b c):FEq a c:=⟨h.1.trans k.1,fun t bs=>(h.2 t bs).trans (k.2 t bs)⟩
theorem FEq.rf {a b:List SV} (h:FEq a b) (bs:Nat → Nat):rf bs a = rf bs b:=by
 apply Array.ext
 ·simp [SX.rf,h.1]
 ·intro i h1 h2
  have e1:=rf_get bs a i
  have e2:=rf_get bs b i
  rw [h.2 i bs] at e1
  simp only [Array.getD_eq_getD_getElem?,Array.getElem?_eq_getElem h1,Array.getElem?_eq_getElem h2,Option.getD_some] at e1 e2
  rw [e1,e2]
theorem fget_set_real (fr:List SV) (d t:Nat) (s:SV) (bs:Nat → Nat):(fget (fset fr d s) t).real bs = if t = d ∧ d < fr.length then s.real bs else (fget fr t).real bs:=by
 by_cases e:t = d
 ·subst e
  by_cases hl:t < fr.length
  ·simp [fget_set_same _ _ _ hl,hl]
  ·have hn:∀ (fr:List SV) (t:Nat),¬ t < fr.length → fset fr t s = fr:=by
    intro fr
    induction fr with
    | nil=>intro t _; rfl
    | cons x l ih=>
     intro t ht
     cases t with
     | zero=>simp at ht
     | succ t=>simp [fset,ih t (by simpa using ht)]
   simp [hn fr t hl,hl]
 ·simp [fget_set_ne _ _ _ _ e,e]
theorem FEq.set {a b:List SV} (h:FEq a b) (d:Nat) {s s':SV} (hs:∀ bs,s.real bs = s'.real bs):FEq (fset a d s) (fset b d s'):=by
 refine ⟨by simp [length_fset,h.1],fun t bs=>?_⟩
 rw [fget_set_real,fget_set_real,h.1,h.2 t bs,hs bs]
theorem FEq.put {a b:List SV} (h:FEq a b) (d:Option Nat) (s:SV):FEq (put a d s) (put b d s):=by
 cases d with
 | none=>exact h
 | some d=>exact h.set d fun _=>rfl
theorem FEq.set_self {a:List SV} {d:Nat} {s:SV} (h:∀ bs,s.real bs = (fget a d).real bs):FEq (fset a d s) a:=by
 refine ⟨length_fset _ _ _,fun t bs=>?_⟩
 rw [fget_set_real]
 split
 ·rename_i hc; rw [hc.1]; exact h bs
 ·rfl
theorem op1_feq {a b:List SV} (h:FEq a b) (x:Operand) (bs:Nat → Nat):(op1 a x).real bs = (op1 b x).real bs:=by
 have h1:=op1_real bs a [] x
 have h2:=op1_real bs b [] x
 rw [← h1,← h2,h.rf bs]
def wantedS (all:List Oper) (fr:List SV) (o:Oper):Bool:=
 match o.guard with
 | none=>true
 | some (j,want)=>match dstOf all j with
  | some d=>match (fget fr d).real (fun _=>0) with
   | .bool t=>t == want
   | _=>false
  | none=>false
theorem real_bool {s:SV} {t:Bool} {bs bs':Nat → Nat} (h:s.real bs = .bool t):s.real bs' = .bool t:=by
 cases s <;> simp_all [SV.real]
theorem wantedS_eq {ops:Array Oper} {o:Oper} {fr:List SV} (bs:Nat → Nat):Region.wanted o (yielded ops (rf bs fr)) = wantedS ops.toList fr o:=by
 unfold Region.wanted wantedS dstOf
 cases hg:o.guard with
 | none=>rfl
 | some g=>
  obtain ⟨j,want⟩:=g
  simp only [yielded,Array.getElem?_toList]
  cases hd:(ops[j]?).bind (·.dst) with
  | none=>rfl
  | some d=>
   simp only [Option.bind_some]
   have e:=rf_get bs fr d
   cases ht:(rf bs fr)[d]? with
   | none=>
    rw [Array.getD_eq_getD_getElem?,ht] at e
    simp only [Option.getD_none] at e
    have:∀ t,(fget fr d).real (fun _=>0) ≠ .bool t:=fun t h=>by
     have:=real_bool (bs':=bs) h
     rw [← e] at this
     cases this
    cases hv:(fget fr d).real (fun _=>0) <;> first | rfl | exact absurd hv (this _)
   | some v=>
    rw [Array.getD_eq_getD_getElem?,ht] at e
    simp only [Option.getD_some] at e
    cases v with
    | bool t=>
     rw [real_bool (bs':=fun _=>0) e.symm]
     rfl
    | _=>
     have:∀ t,(fget fr d).real (fun _=>0) ≠ .bool t:=fun t h=>by
      have:=real_bool (bs':=bs) h
      rw [← e] at this
      cases this
     cases hv:(fget fr d).real (fun _=>0) <;> first | rfl | exact absurd hv (this _)
theorem execs_cons {E:Env} {dr:Bool} {all r:List Oper} {o:Oper} {fr:List SV} {L:List Box} {H:List HO} {k:List SV → List Box → List HO → Prop} (h:execs E dr all (o :: r) fr L H k):
  ∃ fr1,FEq fr1 fr ∧ (∀ n,WfFr n fr → WfFr n fr1) ∧
   ((wantedS all fr o = true ∧ exec1 E dr fr1 L H o.dst o.op fun s L H=>execs E dr all r (put fr1 o.dst s) L H k) ∨ (wantedS all fr o = false ∧ execs E dr all r (put fr1 o.dst (.v undef)) L H k)):=by
 unfold execs at h
 cases hg:o.guard with
 | none=>
  simp only [hg] at h
  exact ⟨fr,FEq.refl _,fun _ h=>h,.inl ⟨by simp [wantedS,hg],h⟩⟩
 | some g=>
  obtain ⟨j,want⟩:=g
  simp only [hg] at h
  unfold gdS at h
  cases hd:dstOf all j with
  | none=>
   simp only [hd] at h
   exact ⟨fr,FEq.refl _,fun _ h=>h,.inr ⟨by simp [wantedS,hg,hd],h⟩⟩
  | some d=>
   simp only [hd] at h
   split at h
   ·rename_i t ht
    have e:wantedS all fr o = (t == want):=by simp [wantedS,hg,hd,ht,SV.real]
    refine ⟨fr,FEq.refl _,fun _ h=>h,?_⟩
    rw [e]
    cases hw:(t == want) <;> simp only [hw,cond_true,cond_false] at h
    ·exact .inr ⟨rfl,h⟩
    ·exact .inl ⟨rfl,h⟩
   ·rename_i t ht
    have e:wantedS all fr o = (t == want):=by simp [wantedS,hg,hd,ht,SV.real]
    rw [e]
    by_cases hw:t = want
    ·subst hw
     exact ⟨_,FEq.set_self (by simp [ht,SV.real]),fun n hf=>hf.set (y:=.b t) trivial d,.inl ⟨by simp,h.1 rfl⟩⟩
    ·have hw':t = !want:=by cases t <;> cases want <;> simp_all
     subst hw'
     exact ⟨_,FEq.set_self (by simp [ht,SV.real]),fun n hf=>hf.set (y:=.b !want) trivial d,.inr ⟨by simp,h.2 rfl⟩⟩
   ·rename_i vs ht
    exact ⟨fr,FEq.refl _,fun _ h=>h,.inr ⟨by simp [wantedS,hg,hd,ht,SV.real],h⟩⟩
   ·exact h.elim
theorem put_real (bs:Nat → Nat) (fr:List SV) (d:Option Nat) (s:SV) (df:List Deferred):({ tmps:=rf bs fr,defers:=df }:Act).put d (s.real bs) = { tmps:=rf bs (put fr d s),defers:=df }:=by
 cases d with
 | none=>rfl
 | some d=>simp only [Act.put,put,rf_set]
theorem not_defer {E:Env} {dr:Bool} {fr:List SV} {L:List Box} {H:List HO} {d:Option Nat} {op:Op} {k:SV → List Box → List HO → Prop} (h:exec1 E dr fr L H d op k) (c:Call):op ≠ .defer c:=by
 rintro rfl
 simp [exec1,isFree,freeOp] at h
theorem wp_op {E:Env} (hE:E.Fine) (hD:E.DetOk) {dr:Bool} {ops:Array Oper} {i:Nat} {o:Oper} (ho:ops[i]? = some o) {frC frR:List SV} {L:List Box} {H:List HO} {k:SV → List Box → List HO → Prop} (h:exec1 E dr frC L H o.dst o.op k)
  (hw:wantedS ops.toList frR o = true) {bs:Nat → Nat} {ks:List (Nat × Obj)} {w:World} (r:Rel E.w0 bs ks L H w) (hf:WfFr L.length frC) (hfR:WfFr L.length frR) (hx:∀ x ∈ o.op.operands,(op1 frR x).real bs = (op1 frC x).real bs)
  {rd:Option Nat} {df:List Deferred} {Q:Exit → Act → World → Prop} {K:Act → World → Prop}
  (hK:∀ s bs' L' H' w',k s L' H' → s.wf L'.length → Next' E dr o.op bs bs' ks L L' H H' w w' → K { tmps:=rf bs' (put frR o.dst s),defers:=df } w'):
  wpOpIn (fence rd) 0 E.P ops Q i K { tmps:=rf bs frR,defers:=df } w:=by
 have hnd:=not_defer h
 unfold wpOpIn
 simp only [ho,wantedS_eq,hw,if_true]
 unfold Oper.wpIn
 refine ⟨fun _ _=>trivial,?_⟩
 rw [Oper.semAt_eq _ _ _ hnd]
 have hρ:∀ x ∈ o.op.operands,({ tmps:=rf bs frR,defers:=df }:Act).eval x = (op1 frC x).real bs:=fun x hxm=>by rw [op1_real]; exact hx x hxm
 unfold exec1 at h
 cases hfree:isFree o.op with
 | true=>
  simp only [hfree,cond_true] at h
  obtain ⟨s,hk,hwf,hg⟩:=free_sound hE h
  rw [hg bs ks L H w _ o r (fun _=>⟨List.prefix_refl _,fun _ h=>h⟩) hρ rfl,Oper.uponIn_value,put_real]
  exact hK s bs L H w hk (hwf _ hf) ⟨Come.refl _ _ _ _,r,fun _ _=>⟨List.prefix_refl _,fun _ h=>h⟩⟩
 | false=>
  simp only [hfree,cond_false] at h
  refine chain_sound hD h r hρ rfl fun s bs' L' H' w' hk hwf hx=>?_
  have e:rf bs frR = rf bs' frR:=(rf_agree hfR hx.agree).symm
  show K (({ tmps:=rf bs frR,defers:=df }:Act).put o.dst (s.real bs')) w'
  rw [e,put_real]
  exact hK s bs' L' H' w' hk hwf hx
theorem wp_skip_op {E:Env} {ops:Array Oper} {i:Nat} {o:Oper} (ho:ops[i]? = some o) {fr:List SV} (hw:wantedS ops.toList fr o = false) {bs:Nat → Nat} {w:World} {rd:Option Nat} {df:List Deferred} {Q:Exit → Act → World → Prop} {K:Act → World → Prop}
  (hK:K { tmps:=rf bs (put fr o.dst (.v undef)),defers:=df } w):wpOpIn (fence rd) 0 E.P ops Q i K { tmps:=rf bs fr,defers:=df } w:=by
 unfold wpOpIn
 simp only [ho,wantedS_eq,hw]
 refine ⟨fun _ _=>trivial,?_⟩
 have:(undef:Value) = (SV.v undef).real bs:=rfl
 rw [this,put_real]
 exact hK
theorem execs_sound {E:Env} (hE:E.Fine) (hD:E.DetOk) {dr:Bool} {ops:Array Oper} {k:List SV → List Box → List HO → Prop} {ks:List (Nat × Obj)} {rd:Option Nat} {df:List Deferred} {Q:Exit → Act → World → Prop}:
  ∀ (il:List Nat) (fr frR:List SV) (L:List Box) (H:List HO) (bs:Nat → Nat) (w:World),execs E dr ops.toList (il.filterMap (ops[·]?)) fr L H k → Rel E.w0 bs ks L H w → WfFr L.length fr → FEq frR fr → WfFr L.length frR →
   (∀ fr' bs' L' H' w',k fr' L' H' → WfFr L'.length fr' → Come bs bs' L L' H H' w w' → Rel E.w0 bs' ks L' H' w' → Q .normal { tmps:=rf bs' fr',defers:=df } w') →
   wpOpsIn (fence rd) 0 E.P ops Q il { tmps:=rf bs frR,defers:=df } w
 | [],fr,frR,L,H,bs,w,h,r,hf,he,_,hQ=>by
  simp only [List.filterMap_nil,execs] at h
  simp only [wpOpsIn]
  rw [he.rf bs]
  exact hQ fr bs L H w h hf (Come.refl _ _ _ _) r
 | i :: il,fr,frR,L,H,bs,w,h,r,hf,he,hfR,hQ=>by
  rw [wpOpsIn_cons]
  cases ho:ops[i]? with
  | none=>
   simp only [List.filterMap_cons,ho] at h
   simp only [wpOpIn,ho]
   exact execs_sound hE hD il fr frR L H bs w h r hf he hfR hQ
  | some o=>
   simp only [List.filterMap_cons,ho] at h
   obtain ⟨fr1,he1,hf1,h⟩:=execs_cons h
   have heR:FEq frR fr1:=he.trans he1.symm
   have hws:wantedS ops.toList frR o = wantedS ops.toList fr o:=by rw [← wantedS_eq (fun _=>0),← wantedS_eq (fun _=>0),he.rf]
   rcases h with ⟨hw,h⟩ | ⟨hw,h⟩
   ·refine wp_op hE hD ho h (hws.trans hw) r (hf1 _ hf) hfR (fun x _=>op1_feq heR x bs) fun s bs' L' H' w' hk hwf hx=>?_
    exact execs_sound hE hD il _ _ L' H' bs' w' hk hx.rel (((hf1 _ hf).le hx.le).put hwf _) (heR.put _ s) ((hfR.le hx.le).put hwf _) fun fr' bs'' L'' H'' w'' hk' hf' hc hr=>
     hQ fr' bs'' L'' H'' w'' hk' hf' (Come.trans hx.toCome hc) hr
   ·exact wp_skip_op ho (hws.trans hw) (execs_sound hE hD il _ _ L H bs w h r ((hf1 _ hf).put (y:=.v undef) trivial _) (heR.put _ _) (hfR.put (y:=.v undef) trivial _) hQ)
end Go.SX

namespace Go.SX
open Go.RowKit
def maskOf (ms:List Nat) (o:Oper):Nat:=o.after.toList.foldl (fun s e=>bif Region.binds .any e then s ||| (1 <<< e.on) ||| ms.getD e.on 0 else s) 0
def masks:List Oper → List Nat → List Nat
 | [],acc=>acc
 | o :: r,acc=>masks r (acc ++ [maskOf acc o])
def edgesB (ops:List Oper):Bool:=ops.zipIdx.all fun (o,i)=>o.after.toList.all fun e=>!Region.binds .any e || decide (e.on < i)
def pairB (F G:Nat → Bool) (ops:List Oper) (ms:List Nat) (i j:Nat):Bool:=
 i != j && !(ms.getD i 0).testBit j &&
 match ops[i]?,ops[j]? with
 | some oi,some oj=>(ms.getD j 0).testBit i || (isFree oi.op && Oper.apart ops.toArray oi oj && (!(storeLike oj.op || G j) || !(isLoad oi.op) || (F i && G j)))
 | _,_=>false
def noneB (_:Nat):Bool:=false
def pairsB (p:Nat → Nat → Bool):List Nat → Bool
 | []=>true
 | i :: l=>l.all (p i) && pairsB p l
def regB (ops:List Oper) (cl:List Nat):Bool:=
 cl.length == ops.length && cl.all (fun i=>decide (i < ops.length)) && (List.range ops.length).all (fun i=>cl.contains i) && edgesB ops && pairsB (pairB noneB noneB ops (masks ops [])) cl
theorem pairsB_sub {p:Nat → Nat → Bool}:∀ {l l':List Nat},l'.Sublist l → pairsB p l = true → pairsB p l' = true
 | _,_,.slnil,h=>h
 | _,_,.cons a hs,h=>by
  simp only [pairsB,Bool.and_eq_true] at h
  exact pairsB_sub hs h.2
 | _,_,.cons_cons a hs,h=>by
  simp only [pairsB,Bool.and_eq_true,List.all_eq_true] at h ⊢
  exact ⟨fun x hx=>h.1 x (hs.subset hx),pairsB_sub hs h.2⟩
theorem pairsB_append {p:Nat → Nat → Bool} {a b:List Nat} (h:pairsB p (a ++ b) = true):∀ i ∈ a,∀ j ∈ b,p i j = true:=by
 induction a with
 | nil=>intro i hi; cases hi
 | cons x a ih=>
  simp only [List.cons_append,pairsB,Bool.and_eq_true,List.all_eq_true] at h
  intro i hi j hj
  rcases List.mem_cons.1 hi with rfl | hi
  ·exact h.1 j (List.mem_append_right _ hj)
  ·exact ih h.2 i hi j hj
def ClosedS (ops:List Oper) (S:Nat → Prop):Prop:=∀ j o,ops[j]? = some o → S j → ∀ e ∈ o.after.toList,Region.binds .any e = true → S e.on
theorem fold_bits (ms:List Nat) (es:List Edge) (s i:Nat):(es.foldl (fun s e=>bif Region.binds .any e then s ||| (1 <<< e.on) ||| ms.getD e.on 0 else s) s).testBit i = true →
  s.testBit i = true ∨ ∃ e ∈ es,Region.binds .any e = true ∧ (e.on = i ∨ (ms.getD e.on 0).testBit i = true):=by
 induction es generalizing s with
 | nil=>exact fun h=>.inl h
 | cons e es ih=>
  intro h
  simp only [List.foldl_cons] at h
  rcases ih _ h with h | ⟨e',he',hb,h⟩
  ·cases hb:Region.binds .any e with
   | false=>rw [hb] at h; exact .inl h
   | true=>
    rw [hb] at h
    simp only [cond_true,Nat.testBit_or,Bool.or_eq_true] at h
    rcases h with (h | h) | h
    ·exact .inl h
    ·refine .inr ⟨e,List.mem_cons_self,hb,.inl ?_⟩
     rw [Nat.one_shiftLeft,Nat.testBit_two_pow] at h
     simpa using h
    ·exact .inr ⟨e,List.mem_cons_self,hb,.inr h⟩
  ·exact .inr ⟨e',List.mem_cons_of_mem _ he',hb,h⟩
theorem masks_spec (all:List Oper) (S:Nat → Prop) (hS:ClosedS all S):∀ (ops:List Oper) (acc:List Nat),(∀ k o,ops[k]? = some o → all[acc.length + k]? = some o) →
  (∀ j i,j < acc.length → S j → (acc.getD j 0).testBit i = true → S i) → ∀ j i,j < acc.length + ops.length → S j → ((masks ops acc).getD j 0).testBit i = true → S i
 | [],acc,_,ha,j,i,hj,hSj,h=>ha j i (by simpa using hj) hSj h
 | o :: r,acc,hall,ha,j,i,hj,hSj,h=>by
  refine masks_spec all S hS r (acc ++ [maskOf acc o]) (fun k o' hk=>?_) (fun j i hj hSj h=>?_) j i (by simp at hj ⊢; omega) hSj h
  ·have:=hall (k + 1) o' (by simpa using hk)
   rw [← this]
   congr 1
   simp
   omega
  ·simp at hj
   by_cases e:j = acc.length
   ·subst e
    simp only [List.getD_eq_getElem?_getD,List.getElem?_append_right (Nat.le_refl _),Nat.sub_self,List.getElem?_cons_zero,Option.getD_some] at h
    have ho:=hall 0 o rfl
    simp only [Nat.add_zero] at ho
    rcases fold_bits acc o.after.toList 0 i h with h | ⟨e,he,hb,h⟩
    ·simp at h
    ·have hSe:=hS _ o ho hSj e he hb
     rcases h with rfl | h
     ·exact hSe
     ·by_cases hlt:e.on < acc.length
      ·exact ha _ _ hlt hSe h
      ·rw [List.getD_eq_getElem?_getD,List.getElem?_eq_none (by omega)] at h
       simp at h
   ·have hlt:j < acc.length:=by omega
    rw [List.getD_eq_getElem?_getD,List.getElem?_append_left hlt,← List.getD_eq_getElem?_getD] at h
    exact ha j i hlt hSj h
def Val (E:Env) (all:List Oper) (fr:List SV) (L:List Box) (H:List HO) (o:Oper) (s:SV):Prop:=
 s.wf L.length ∧ ((wantedS all fr o = true ∧ isFree o.op = true ∧ Gives E fr L H o.op s) ∨ (wantedS all fr o = false ∧ s = .v undef))
def hF (F:Nat → Bool) (i:Nat) (H:List HO):List HO:=if F i = true then [] else H
theorem hF_sub {F:Nat → Bool} {i:Nat} {H:List HO}:∀ x ∈ hF F i H,x ∈ H:=fun x hx=>by
 unfold hF at hx
 split at hx
 ·cases hx
 ·exact hx
def Replay (F:Nat → Bool) (E:Env) (ops:Array Oper):List Nat → List SV → List Box → List HO → List SV → Prop
 | [],frR,_,_,frC=>FEq frR frC
 | i :: D,frR,L,H,frC=>∃ o s,ops[i]? = some o ∧ Val E ops.toList frR L (hF F i H) o s ∧ Replay F E ops D (put frR o.dst s) L H frC
section
variable {F:Nat → Bool} {E:Env} {ops:Array Oper} {L:List Box} {H:List HO}
theorem looks_ops {o:Oper} {x:Operand} (hx:x ∈ o.op.operands) {t:Nat} (ht:x = .tmp t):t ∈ o.looksAt ops:=by
 subst ht
 simp only [Oper.looksAt,List.mem_append,List.mem_filterMap]
 exact .inl ⟨.tmp t,by simpa using hx,rfl⟩
theorem op1_same {fr fr':List SV} {o:Oper} (h:∀ t ∈ o.looksAt ops,∀ bs,(fget fr t).real bs = (fget fr' t).real bs) {x:Operand} (hx:x ∈ o.op.operands) (bs:Nat → Nat):(op1 fr x).real bs = (op1 fr' x).real bs:=by
 cases x with
 | tmp t=>exact h t (looks_ops hx rfl) bs
 | const c=>cases c <;> rfl
 | global g=>rfl
 | func f=>rfl
theorem wantedS_same {fr fr':List SV} {o:Oper} (h:∀ t ∈ o.looksAt ops,∀ bs,(fget fr t).real bs = (fget fr' t).real bs):wantedS ops.toList fr o = wantedS ops.toList fr' o:=by
 unfold wantedS
 cases hg:o.guard with
 | none=>rfl
 | some g=>
  obtain ⟨j,want⟩:=g
  simp only []
  cases hd:dstOf ops.toList j with
  | none=>rfl
  | some d=>
   simp only []
   rw [h d (by
    simp only [Oper.looksAt,hg,List.mem_append]
    right
    simp only [dstOf,Array.getElem?_toList] at hd
    simp [hd])]
theorem Val.same {fr fr':List SV} {o:Oper} {s:SV} (v:Val E ops.toList fr L H o s) (h:∀ t ∈ o.looksAt ops,∀ bs,(fget fr t).real bs = (fget fr' t).real bs):Val E ops.toList fr' L H o s:=by
 refine ⟨v.1,?_⟩
 rw [← wantedS_same h]
 rcases v.2 with ⟨hw,hf,hg⟩ | hn
 ·exact .inl ⟨hw,hf,fun bs ks L' H' w ρ o' r hl he ho=>hg bs ks L' H' w ρ o' r hl (fun x hx=>(he x hx).trans (op1_same h hx bs).symm) ho⟩
 ·exact .inr hn
theorem Replay.feq:∀ {D:List Nat} {a b c:List SV},Replay F E ops D a L H c → FEq a b → Replay F E ops D b L H c
 | [],_,_,_,h,e=>e.symm.trans h
 | i :: D,a,b,c,h,e=>by
  obtain ⟨o,s,ho,hv,hr⟩:=h
  exact ⟨o,s,ho,hv.same fun t _ bs=>e.2 t bs,Replay.feq hr (e.put _ s)⟩
theorem Replay.feqC:∀ {D:List Nat} {a c d:List SV},Replay F E ops D a L H c → FEq c d → Replay F E ops D a L H d
 | [],_,_,_,h,e=>h.trans e
 | i :: D,a,c,d,h,e=>by
  obtain ⟨o,s,ho,hv,hr⟩:=h
  exact ⟨o,s,ho,hv,Replay.feqC hr e⟩
theorem put_other {fr:List SV} {d:Option Nat} {s:SV} {t:Nat} (h:∀ e,d = some e → t ≠ e) (bs:Nat → Nat):(fget (put fr d s) t).real bs = (fget fr t).real bs:=by
 cases d with
 | none=>rfl
 | some d=>simp only [put]; rw [fget_set_ne _ _ _ _ (h d rfl)]
theorem put_comm {fr:List SV} {d d':Option Nat} {s s':SV} (h:∀ e,d = some e → d' ≠ some e):FEq (put (put fr d s) d' s') (put (put fr d' s') d s):=by
 cases d with
 | none=>exact FEq.refl _
 | some d=>
  cases d' with
  | none=>exact FEq.refl _
  | some d'=>
   have hne:d ≠ d':=fun e=>h d rfl (by rw [e])
   refine ⟨by simp [put,length_fset],fun t bs=>?_⟩
   simp only [put]
   rw [fget_set_real,fget_set_real,fget_set_real,fget_set_real,length_fset,length_fset]
   by_cases h1:t = d <;> by_cases h2:t = d' <;> simp_all
def ApartD (ops:Array Oper) (D:List Nat) (x:Oper):Prop:=∀ i ∈ D,∀ o,ops[i]? = some o → Oper.apart ops o x = true
theorem ApartD.tail {i:Nat} {D:List Nat} {x:Oper} (h:ApartD ops (i :: D) x):ApartD ops D x:=fun j hj=>h j (List.mem_cons_of_mem _ hj)
theorem Replay.put:∀ {D:List Nat} {a c:List SV} {x:Oper} {s:SV},Replay F E ops D a L H c → ApartD ops D x → Replay F E ops D (put a x.dst s) L H (put c x.dst s)
 | [],_,_,x,s,h,_=>FEq.put h _ s
 | i :: D,a,c,x,s,h,ha=>by
  obtain ⟨o,s',ho,hv,hr⟩:=h
  obtain ⟨h1,h2,h3⟩:=Oper.apart_spec (ha i List.mem_cons_self o ho)
  refine ⟨o,s',ho,hv.same fun t ht bs=>(put_other (fun e he=>fun e'=>h3 e he (e' ▸ ht)) bs).symm,?_⟩
  exact (Replay.put hr ha.tail).feq (put_comm (fun e he=>h2 e he))
theorem Replay.at:∀ {D:List Nat} {a c:List SV} {x:Oper},Replay F E ops D a L H c → ApartD ops D x → ∀ t ∈ x.looksAt ops,∀ bs,(fget a t).real bs = (fget c t).real bs
 | [],_,_,_,h,_,t,_,bs=>h.2 t bs
 | i :: D,a,c,x,h,ha,t,ht,bs=>by
  obtain ⟨o,s',ho,hv,hr⟩:=h
  obtain ⟨h1,h2,h3⟩:=Oper.apart_spec (ha i List.mem_cons_self o ho)
  rw [← Replay.at hr ha.tail t ht bs]
  exact (put_other (fun e he=>fun e'=>h1 e he (e' ▸ ht)) bs).symm
theorem Replay.snoc {i:Nat} {o:Oper} (ho:ops[i]? = some o):∀ {D:List Nat} {a c:List SV} {s:SV},Replay F E ops D a L H c → Val E ops.toList c L (hF F i H) o s → Replay F E ops (D ++ [i]) a L H (SX.put c o.dst s)
 | [],a,c,s,h,v=>⟨o,s,ho,v.same fun t _ bs=>(FEq.symm h).2 t bs,FEq.put h _ s⟩
 | j :: D,a,c,s,h,v=>by
  obtain ⟨o',s',ho',hv,hr⟩:=h
  exact ⟨o',s',ho',hv,Replay.snoc ho hr v⟩
theorem Replay.mono {L':List Box} {H':List HO} (hl:L.length ≤ L'.length):∀ {D:List Nat} {a c:List SV},Replay F E ops D a L H c → (∀ i ∈ D,∀ o,ops[i]? = some o → isLoad o.op = true → L <+: L' ∧ (F i = false → ∀ x ∈ H,x ∈ H')) → Replay F E ops D a L' H' c
 | [],_,_,h,_=>h
 | i :: D,a,c,h,hc=>by
  obtain ⟨o,s,ho,hv,hr⟩:=h
  refine ⟨o,s,ho,⟨SV.wf_le hv.1 hl,?_⟩,Replay.mono hl hr fun j hj=>hc j (List.mem_cons_of_mem _ hj)⟩
  rcases hv.2 with ⟨hw,hf,hg⟩ | hn
  ·refine .inl ⟨hw,hf,fun bs ks L2 H2 w ρ o' r hx he ho'=>hg bs ks L2 H2 w ρ o' r (fun hld=>?_) he ho'⟩
   obtain ⟨p1,q1⟩:=hc i List.mem_cons_self o ho hld
   obtain ⟨p2,q2⟩:=hx hld
   refine ⟨p1.trans p2,fun x hx=>?_⟩
   cases hF':F i with
   | true=>simp [hF,hF'] at hx
   | false=>
    simp only [hF,hF',Bool.false_eq_true,if_false] at hx q2
    exact q2 x (q1 hF' x hx)
  ·exact .inr hn
theorem Replay.bubble {i:Nat} {o:Oper} (ho:ops[i]? = some o) {D2:List Nat}:∀ {D1:List Nat} {a c:List SV},Replay F E ops (D1 ++ i :: D2) a L H c → ApartD ops D1 o → ∃ s,Val E ops.toList a L (hF F i H) o s ∧ Replay F E ops (D1 ++ D2) (SX.put a o.dst s) L H c
 | [],a,c,h,_=>by
  obtain ⟨o',s,ho',hv,hr⟩:=h
  have:o' = o:=by rw [ho] at ho'; exact (Option.some.inj ho').symm
  subst this
  exact ⟨s,hv,hr⟩
 | d :: D1,a,c,h,ha=>by
  obtain ⟨od,sd,hod,hvd,hr⟩:=h
  obtain ⟨s,hv,hr⟩:=Replay.bubble ho hr ha.tail
  obtain ⟨h1,h2,h3⟩:=Oper.apart_spec (ha d List.mem_cons_self od hod)
  refine ⟨s,hv.same fun t ht bs=>put_other (fun e he=>fun e'=>h1 e he (e' ▸ ht)) bs,od,sd,hod,hvd.same fun t ht bs=>(put_other (fun e he=>fun e'=>h3 e he (e' ▸ ht)) bs).symm,?_⟩
  exact hr.feq (put_comm (fun e he=>h2 e he))
end
theorem advance {F:Nat → Bool} {E:Env} (hE:E.Fine) {ops:Array Oper} {k:List SV → List Box → List HO → Prop} {L:List Box} {H:List HO} {Z:List Nat}:∀ (Y:List Nat) (D:List Nat) (frR frC:List SV),execs E true ops.toList ((Y ++ Z).filterMap (ops[·]?)) frC L H k → WfFr L.length frC →
  Replay F E ops D frR L H frC → (∀ y ∈ Y,F y = false ∧ ∃ o,ops[y]? = some o ∧ isFree o.op = true) → ∃ frC',execs E true ops.toList (Z.filterMap (ops[·]?)) frC' L H k ∧ WfFr L.length frC' ∧ Replay F E ops (D ++ Y) frR L H frC'
 | [],D,frR,frC,h,hf,hr,_=>⟨frC,h,hf,by simpa using hr⟩
 | y :: Y,D,frR,frC,h,hf,hr,hy=>by
  obtain ⟨hFy,o,ho,hfree⟩:=hy y List.mem_cons_self
  simp only [List.cons_append,List.filterMap_cons,ho] at h
  obtain ⟨fr1,he1,hf1,h⟩:=execs_cons h
  have hws:wantedS ops.toList fr1 o = wantedS ops.toList frC o:=by rw [← wantedS_eq (fun _=>0),← wantedS_eq (fun _=>0),he1.rf]
  have hr1:=hr.feqC he1.symm
  have hHy:hF F y H = H:=by simp [hF,hFy]
  have step:∃ s,Val E ops.toList fr1 L (hF F y H) o s ∧ execs E true ops.toList ((Y ++ Z).filterMap (ops[·]?)) (put fr1 o.dst s) L H k:=by
   rcases h with ⟨hw,h⟩ | ⟨hw,h⟩
   ·unfold exec1 at h
    simp only [hfree,cond_true] at h
    obtain ⟨s,hk,hwf,hg⟩:=free_sound hE h
    exact ⟨s,⟨hwf _ (hf1 _ hf),.inl ⟨hws.trans hw,hfree,hHy.symm ▸ hg⟩⟩,hk⟩
   ·exact ⟨.v undef,⟨(trivial:SV.wf _ (.v undef)),.inr ⟨hws.trans hw,rfl⟩⟩,h⟩
  obtain ⟨s,hv,h⟩:=step
  obtain ⟨frC',h',hf',hr'⟩:=advance hE Y (D ++ [y]) frR _ h ((hf1 _ hf).put hv.1 _) (Replay.snoc ho hr1 hv) fun z hz=>hy z (List.mem_cons_of_mem _ hz)
  exact ⟨frC',h',hf',by simpa using hr'⟩
structure RegInv (E:Env) (ops:Array Oper) (k:List SV → List Box → List HO → Prop) (ks:List (Nat × Obj)) (cl:List Nat) (listed:Array Bool) (D C2:List Nat) (frR frC:List SV) (L:List Box) (H:List HO) (bs:Nat → Nat) (w:World):Prop where
 split:∃ C1,cl = C1 ++ C2 ∧ D.Sublist C1 ∧ ∀ i,i < ops.size → (listed.getD i false = true ↔ i ∈ C1 ∧ i ∉ D)
 size:listed.size = ops.size
 closed:ClosedS ops.toList (fun i=>listed.getD i false = true)
 ex:execs E true ops.toList (C2.filterMap (ops[·]?)) frC L H k
 rep:Replay noneB E ops D frR L H frC
 rel:Rel E.w0 bs ks L H w
 wfC:WfFr L.length frC
 wfR:WfFr L.length frR
theorem regB_spec {ops:List Oper} {cl:List Nat} (h:regB ops cl = true):cl.length = ops.length ∧ (∀ i ∈ cl,i < ops.length) ∧ (∀ i,i < ops.length → i ∈ cl) ∧
  (∀ i o,ops[i]? = some o → ∀ e ∈ o.after.toList,Region.binds .any e = true → e.on < i) ∧ pairsB (pairB noneB noneB ops (masks ops [])) cl = true:=by
 unfold regB at h
 simp only [Bool.and_eq_true,List.all_eq_true,beq_iff_eq,decide_eq_true_eq,List.mem_range,List.contains_eq_mem] at h
 obtain ⟨⟨⟨⟨h1,h2⟩,h3⟩,h4⟩,h5⟩:=h
 refine ⟨h1,h2,h3,fun i o ho e he hb=>?_,h5⟩
 unfold edgesB at h4
 rw [List.all_eq_true] at h4
 have:=h4 (o,i) (List.mem_zipIdx_iff_getElem?.2 ho)
 simp only [List.all_eq_true,Bool.or_eq_true,Bool.not_eq_true',decide_eq_true_eq] at this
 rcases this e he with h | h
 ·rw [hb] at h; cases h
 ·exact h
theorem gd_both {listed:Array Bool} {i:Nat} (h:listed.getD i true = false):listed.getD i false = false:=by
 rcases Nat.lt_or_ge i listed.size with h' | h'
 ·simp [h'] at h ⊢; exact h
 ·simp [Array.getElem?_eq_none h'] at h
theorem gd_in {listed:Array Bool} {i:Nat} (hi:i < listed.size) (h:listed.getD i false = false):listed.getD i true = false:=by
 simp [hi] at h ⊢; exact h
theorem pair_apart {F G:Nat → Bool} {ops:Array Oper} {i j:Nat} {listed:Array Bool} (hcl:ClosedS ops.toList (fun i=>listed.getD i false = true)) (hp:pairB F G ops.toList (masks ops.toList []) i j = true) (hi:listed.getD i false = false) (hj:j < ops.size)
  (hdeps:∀ o,ops[j]? = some o → ∀ e ∈ o.after.toList,Region.binds .any e = true → listed.getD e.on false = true):
  ∃ oi oj,ops[i]? = some oi ∧ ops[j]? = some oj ∧ isFree oi.op = true ∧ Oper.apart ops oi oj = true ∧ ((storeLike oj.op || G j) = true → isLoad oi.op = true → F i = true ∧ G j = true):=by
 unfold pairB at hp
 simp only [Bool.and_eq_true] at hp
 obtain ⟨⟨hne,_⟩,hp⟩:=hp
 split at hp
 ·rename_i oi oj hoi hoj
  rw [Array.getElem?_toList] at hoi hoj
  rcases Bool.or_eq_true_iff.1 hp with hp | hp
  ·exfalso
   have hS:ClosedS ops.toList (fun x=>listed.getD x false = true ∨ x = j):=by
    intro x o ho hx e he hb
    rcases hx with hx | rfl
    ·exact .inl (hcl x o ho hx e he hb)
    ·exact .inl (hdeps o (by simpa using ho) e he hb)
   have:=masks_spec ops.toList _ hS ops.toList [] (fun k o h=>by simpa using h) (fun x y hx=>by simp at hx) j i (by simpa using hj) (.inr rfl) hp
   rcases this with h | h
   ·rw [hi] at h; cases h
   ·subst h
    simp at hne
  ·simp only [Bool.and_eq_true,Array.toArray_toList,Bool.or_eq_true,Bool.not_eq_true'] at hp
   refine ⟨oi,oj,hoi,hoj,hp.1.1,hp.1.2,fun hs hl=>?_⟩
   rcases hp.2 with (h | h) | h
   ·rw [hs] at h; cases h
   ·rw [hl] at h; cases h
   ·exact h
 ·cases hp
theorem getD_set {listed:Array Bool} {i j:Nat} (hi:i < listed.size):(listed.setIfInBounds i true).getD j false = if j = i then true else listed.getD j false:=by
 by_cases e:j = i
 ·subst e; simp [hi]
 ·simp [e,Array.getD_eq_getD_getElem?,Array.getElem?_setIfInBounds_ne (Ne.symm e)]
theorem drawn_sound {E:Env} (hE:E.Fine) (hD:E.DetOk) {ops:Array Oper} {cl:List Nat} (hreg:regB ops.toList cl = true) {k:List SV → List Box → List HO → Prop} {ks:List (Nat × Obj)} {rd:Option Nat} {df:List Deferred} {Q:Exit → Act → World → Prop}
  {bs0:Nat → Nat} {L0:List Box} {H0:List HO} {w00:World}
  (hQ:∀ fr' bs' L' H' w',k fr' L' H' → WfFr L'.length fr' → Come bs0 bs' L0 L' H0 H' w00 w' → Rel E.w0 bs' ks L' H' w' → Q .normal { tmps:=rf bs' fr',defers:=df } w'):
  ∀ (fuel:Nat) (listed:Array Bool) (D C2:List Nat) (frR frC:List SV) (L:List Box) (H:List HO) (bs:Nat → Nat) (w:World),D.length + C2.length = fuel → RegInv E ops k ks cl listed D C2 frR frC L H bs w → Come bs0 bs L0 L H0 H w00 w →
   wpAnyIn (fence rd) 0 E.P .any ops Q fuel listed { tmps:=rf bs frR,defers:=df } w:=by
 obtain ⟨hlen,hlt,hall,hedge,hpairs⟩:=regB_spec hreg
 simp only [Array.length_toList] at hlen hlt hall
 have done:∀ (listed:Array Bool) (frR frC:List SV) (L:List Box) (H:List HO) (bs:Nat → Nat) (w:World),RegInv E ops k ks cl listed [] [] frR frC L H bs w → Come bs0 bs L0 L H0 H w00 w → Q .normal { tmps:=rf bs frR,defers:=df } w:=by
  intro listed frR frC L H bs w inv hc
  have h:=inv.ex
  simp only [List.filterMap_nil,execs] at h
  have hr:=inv.rep
  simp only [Replay] at hr
  rw [hr.rf bs]
  exact hQ frC bs L H w h inv.wfC hc inv.rel
 intro fuel
 induction fuel with
 | zero=>
  intro listed D C2 frR frC L H bs w hn inv hc
  obtain rfl:D = []:=List.eq_nil_of_length_eq_zero (by omega)
  obtain rfl:C2 = []:=List.eq_nil_of_length_eq_zero (by omega)
  refine ⟨?_,done listed frR frC L H bs w inv hc⟩
  obtain ⟨C1,hC,_,hl⟩:=inv.split
  simp only [List.append_nil] at hC
  subst hC
  rw [List.eq_nil_iff_forall_not_mem]
  intro i hi
  obtain ⟨hun,oi,hoi,_⟩:=mem_ready.1 hi
  have hlt':i < ops.size:=(Array.getElem?_eq_some_iff.1 hoi).1
  have:=(hl i hlt').2 ⟨hall i hlt',by simp⟩
  have hu:=gd_both hun
  rw [hu] at this
  cases this
 | succ fuel ih=>
  intro listed D C2 frR frC L H bs w hn inv hc
  obtain ⟨C1,hC,hDs,hl⟩:=inv.split
  refine ⟨fun hready=>?_,fun i hi=>?_⟩
  ·exfalso
   -- the first that is not listed,by its number
   have hex:∃ i,i < ops.size ∧ listed.getD i false = false:=by
    rcases D with _ | ⟨d,D⟩
    ·rcases C2 with _ | ⟨c,C2⟩
     ·simp at hn
     ·have hcm:c ∈ cl:=by rw [hC]; simp
      refine ⟨c,hlt c hcm,?_⟩
      cases hb:listed.getD c false with
      | false=>rfl
      | true=>
       exfalso
       have:=((hl c (hlt c hcm)).1 hb).1
       rw [hC] at hpairs
       have:=pairsB_append hpairs c this c List.mem_cons_self
       simp [pairB] at this
    ·have hdm:d ∈ C1:=hDs.subset List.mem_cons_self
     have hdl:d < ops.size:=hlt d (by rw [hC]; simp [hdm])
     refine ⟨d,hdl,?_⟩
     cases hb:listed.getD d false with
     | false=>rfl
     | true=>exact absurd List.mem_cons_self ((hl d hdl).1 hb).2
   have least:∀ n i,i ≤ n → i < ops.size → listed.getD i false = false → ∃ j,j < ops.size ∧ listed.getD j false = false ∧ ∀ m,m < j → listed.getD m false = true:=by
    intro n
    induction n with
    | zero=>
     intro i hi hs hu
     exact ⟨i,hs,hu,fun m hm=>by omega⟩
    | succ n ih'=>
     intro i hi hs hu
     by_cases hsm:∃ m,m < i ∧ listed.getD m false = false
     ·obtain ⟨m,hm,hmu⟩:=hsm
      exact ih' m (by omega) (by omega) hmu
     ·refine ⟨i,hs,hu,fun m hm=>?_⟩
      cases hb:listed.getD m false with
      | true=>rfl
      | false=>exact absurd ⟨m,hm,hb⟩ hsm
   obtain ⟨i,hi,hu⟩:=hex
   obtain ⟨j,hj,hju,hjm⟩:=least i i (Nat.le_refl _) hi hu
   have:j ∈ Region.ready .any ops listed:=by
    refine mem_ready.2 ⟨gd_in (by rw [inv.size]; exact hj) hju,ops[j],Array.getElem?_eq_getElem hj,fun e he hb=>?_⟩
    exact hjm _ (hedge j ops[j] (by simp [hj]) e (Array.mem_toList_iff.2 he) hb)
   rw [hready] at this
   cases this
  ·obtain ⟨hun,oi,hoi,hdeps⟩:=mem_ready.1 hi
   have hil:i < ops.size:=(Array.getElem?_eq_some_iff.1 hoi).1
   have hu:=gd_both hun
   have hdeps':∀ o,ops[i]? = some o → ∀ e ∈ o.after.toList,Region.binds .any e = true → listed.getD e.on false = true:=by
    intro o ho e he hb
    rw [hoi] at ho
    cases ho
    exact hdeps e (Array.mem_toList_iff.1 he) hb
   have hnl:∀ d,d ∈ D → listed.getD d false = false:=by
    intro d hd
    have hdm:d ∈ C1:=hDs.subset hd
    have hdl:d < ops.size:=hlt d (by rw [hC]; simp [hdm])
    cases hb:listed.getD d false with
    | false=>rfl
    | true=>exact absurd hd ((hl d hdl).1 hb).2
   have hnl2:∀ c,c ∈ C2 → listed.getD c false = false:=by
    intro c hcm
    have hcl:c < ops.size:=hlt c (by rw [hC]; simp [hcm])
    cases hb:listed.getD c false with
    | false=>rfl
    | true=>
     exfalso
     have h1:=((hl c hcl).1 hb).1
     have hp:=hpairs
     rw [hC] at hp
     have:=pairsB_append hp c h1 c hcm
     simp [pairB] at this
   have closed':ClosedS ops.toList (fun x=>(listed.setIfInBounds i true).getD x false = true):=by
    intro j o ho hj e he hb
    rw [getD_set (by rw [inv.size]; exact hil)] at hj ⊢
    by_cases hji:j = i
    ·subst hji
     have:=hdeps' o (by simpa using ho) e he hb
     simp [this]
    ·simp only [hji,if_false] at hj
     have:=inv.closed j o ho hj e he hb
     simp [this]
   have hcase:i ∈ D ∨ i ∈ C2:=by
    have:=hall i hil
    rw [hC,List.mem_append] at this
    rcases this with h | h
    ·by_cases hd:i ∈ D
     ·exact .inl hd
     ·have:=(hl i hil).2 ⟨h,hd⟩
      rw [hu] at this
      cases this
    ·exact .inr h
   rcases hcase with hiD | hiC
   ·-- one that was put off
    obtain ⟨D1,D2,rfl⟩:=List.append_of_mem hiD
    have hsub:(D1 ++ i :: D2).Sublist cl:=hDs.trans (by rw [hC]; exact List.sublist_append_left _ _)
    have hpD:=pairsB_sub hsub hpairs
    have hap:ApartD ops D1 oi:=by
     intro d hd o ho
     have hp:=pairsB_append hpD d hd i List.mem_cons_self
     obtain ⟨o1,o2,h1,h2,_,h4,_⟩:=pair_apart inv.closed hp (hnl d (by simp [hd])) hil hdeps'
     rw [ho] at h1; cases h1
     rw [hoi] at h2; cases h2
     exact h4
    obtain ⟨s,hv,hr⟩:=Replay.bubble hoi inv.rep hap
    have hnew:RegInv E ops k ks cl (listed.setIfInBounds i true) (D1 ++ D2) C2 (put frR oi.dst s) frC L H bs w:=by
     have hnd:∀ x ∈ D1 ++ D2,x ≠ i:=by
      rintro x hx rfl
      rcases List.mem_append.1 hx with hx | hx
      ·have hp:=pairsB_append hpD x hx x List.mem_cons_self
       simp [pairB] at hp
      ·have hp:=pairsB_append (a:=D1 ++ [x]) (b:=D2) (by simpa using hpD) x (by simp) x hx
       simp [pairB] at hp
     refine ⟨⟨C1,hC,List.Sublist.trans (List.Sublist.append (List.Sublist.refl D1) (List.sublist_cons_self i D2)) hDs,fun x hx=>?_⟩,by simp [inv.size],closed',inv.ex,hr,inv.rel,inv.wfC,inv.wfR.put hv.1 _⟩
     ·rw [getD_set (by rw [inv.size]; exact hil)]
      by_cases hxi:x = i
      ·subst hxi
       simp only [if_true,true_iff]
       exact ⟨hDs.subset hiD,fun h=>hnd x h rfl⟩
      ·simp only [hxi,if_false]
       rw [hl x hx]
       simp [hxi]
    have hfu:(D1 ++ D2).length + C2.length = fuel:=by simp at hn ⊢; omega
    rcases hv.2 with ⟨hw,hfree,hg⟩ | ⟨hw,rfl⟩
    ·unfold wpOpIn
     simp only [hoi,wantedS_eq,hw,if_true]
     unfold Oper.wpIn
     refine ⟨fun _ _=>trivial,?_⟩
     have hnd:∀ c,oi.op ≠ .defer c:=by
      intro c e
      have:=hg bs ks L H w (fun x=>(op1 frR x).real bs) oi inv.rel (fun _=>⟨List.prefix_refl _,hF_sub⟩) (fun _ _=>rfl) rfl
      simp [execOp,e] at this
      cases hres:(resolve (fun x=>(op1 frR x).real bs) c oi.type).run E.P w <;> simp [hres,Result.andThen] at this
     rw [Oper.semAt_eq _ _ _ hnd]
     rw [hg bs ks L H w _ oi inv.rel (fun _=>⟨List.prefix_refl _,hF_sub⟩) (fun x _=>op1_real bs frR df x) rfl,Oper.uponIn_value,put_real]
     exact ih _ _ _ _ _ _ _ _ _ hfu hnew hc
    ·exact wp_skip_op hoi hw (ih _ _ _ _ _ _ _ _ _ hfu hnew hc)
   ·-- one that the walk has not come to
    obtain ⟨Y,Z,rfl⟩:=List.append_of_mem hiC
    have hpC:=hpairs
    rw [hC] at hpC
    have hYi:∀ y ∈ C1 ++ Y,pairB noneB noneB ops.toList (masks ops.toList []) y i = true:=fun y hy=>pairsB_append (a:=C1 ++ Y) (b:=i :: Z) (by simpa using hpC) y hy i List.mem_cons_self
    have hfreeY:∀ y ∈ Y,noneB y = false ∧ ∃ o,ops[y]? = some o ∧ isFree o.op = true:=by
     intro y hy
     obtain ⟨o1,o2,h1,h2,h3,_⟩:=pair_apart inv.closed (hYi y (by simp [hy])) (hnl2 y (by simp [hy])) hil hdeps'
     exact ⟨rfl,o1,h1,h3⟩
    obtain ⟨frC',hex,hwf',hrep⟩:=advance hE Y D frR frC inv.ex inv.wfC inv.rep hfreeY
    have hDY:∀ d ∈ D ++ Y,d ∈ C1 ++ Y ∧ listed.getD d false = false:=by
     intro d hd
     rcases List.mem_append.1 hd with hd | hd
     ·exact ⟨by simp [hDs.subset hd],hnl d hd⟩
     ·exact ⟨by simp [hd],hnl2 d (by simp [hd])⟩
    have hap:ApartD ops (D ++ Y) oi:=by
     intro d hd o ho
     obtain ⟨h0,h0'⟩:=hDY d hd
     obtain ⟨o1,o2,h1,h2,_,h4,_⟩:=pair_apart inv.closed (hYi d h0) h0' hil hdeps'
     rw [ho] at h1; cases h1
     rw [hoi] at h2; cases h2
     exact h4
    have hstore:∀ d ∈ D ++ Y,∀ o,ops[d]? = some o → isLoad o.op = true → storeLike oi.op = false:=by
     intro d hd o ho hld
     obtain ⟨h0,h0'⟩:=hDY d hd
     obtain ⟨o1,o2,h1,h2,_,_,h5⟩:=pair_apart inv.closed (hYi d h0) h0' hil hdeps'
     rw [ho] at h1; cases h1
     rw [hoi] at h2; cases h2
     cases hs:storeLike oi.op with
     | false=>rfl
     | true=>have:=(h5 (by rw [hs]; rfl) hld).1; cases this
    simp only [List.filterMap_cons,hoi] at hex
    obtain ⟨fr1,he1,hf1,hex⟩:=execs_cons hex
    have hrep1:=hrep.feqC he1.symm
    have hlook:=Replay.at hrep1 hap
    have hws:wantedS ops.toList frR oi = wantedS ops.toList frC' oi:=by
     rw [wantedS_same hlook,← wantedS_eq (fun _=>0),← wantedS_eq (fun _=>0),he1.rf]
    have newInv:∀ s bs' L' H' w',execs E true ops.toList (Z.filterMap (ops[·]?)) (put fr1 oi.dst s) L' H' k → s.wf L'.length → L.length ≤ L'.length → Rel E.w0 bs' ks L' H' w' → (storeLike oi.op = false → L <+: L' ∧ ∀ x ∈ H,x ∈ H') →
      RegInv E ops k ks cl (listed.setIfInBounds i true) (D ++ Y) Z (put frR oi.dst s) (put fr1 oi.dst s) L' H' bs' w':=by
     intro s bs' L' H' w' hk hwf hle hrel hpre
     refine ⟨⟨C1 ++ Y ++ [i],by rw [hC]; simp,?_,fun x hx=>?_⟩,by simp [inv.size],closed',hk,?_,hrel,((hf1 _ hwf').le hle).put hwf _,(inv.wfR.le hle).put hwf _⟩
     ·exact (List.Sublist.append hDs (List.Sublist.refl Y)).trans (List.sublist_append_left _ _)
     ·rw [getD_set (by rw [inv.size]; exact hil)]
      have hiC1:i ∉ C1:=by
       intro h
       have:=pairsB_append hpC i h i hiC
       simp [pairB] at this
      have hiY:i ∉ Y:=by
       intro h
       have:=hYi i (by simp [h])
       simp [pairB] at this
      by_cases hxi:x = i
      ·subst hxi
       simp only [if_true,true_iff]
       exact ⟨by simp,fun h=>by
        rcases List.mem_append.1 h with h | h
        ·exact hiC1 (hDs.subset h)
        ·exact hiY h⟩
      ·simp only [hxi,if_false]
       rw [hl x hx]
       simp only [List.mem_append,List.mem_cons,hxi,List.not_mem_nil,or_false,not_or]
       constructor
       ·rintro ⟨h1,h2⟩
        refine ⟨.inl h1,h2,fun h3=>?_⟩
        have:=pairsB_append hpC x h1 x (by simp [h3])
        simp [pairB] at this
       ·rintro ⟨h1 | h1,h2,h3⟩
        ·exact ⟨h1,h2⟩
        ·exact absurd h1 h3
     ·exact Replay.put (Replay.mono hle hrep1 fun d hd o ho hld=>⟨(hpre (hstore d hd o ho hld)).1,fun _=>(hpre (hstore d hd o ho hld)).2⟩) hap
    have hfu:(D ++ Y).length + Z.length = fuel:=by simp at hn ⊢; omega
    rcases hex with ⟨hw,hex⟩ | ⟨hw,hex⟩
    ·refine wp_op hE hD hoi hex (hws.trans hw) inv.rel (hf1 _ hwf') inv.wfR (fun x hx=>op1_same hlook hx bs) fun s bs' L' H' w' hk hwf hx=>?_
     exact ih _ _ _ _ _ _ _ _ _ hfu (newInv s bs' L' H' w' hk hwf hx.le hx.rel fun hs=>hx.pre rfl hs) (hc.trans hx.toCome)
    ·exact wp_skip_op hoi (hws.trans hw) (ih _ _ _ _ _ _ _ _ _ hfu (newInv (.v undef) bs L H w hex trivial (Nat.le_refl _) inv.rel fun _=>⟨List.prefix_refl _,fun _ h=>h⟩) hc)
end Go.SX

namespace Go.SX
open Go.RowKit
def execsP (E:Env) (all:List Oper):Plan → List SV → List Box → List HO → (List SV → List Box → List HO → Prop) → Prop
 | .fin,fr,L,H,k=>k fr L H
 | .one i p,fr,L,H,k=>match all[i]? with
  | some o=>execs E true all [o] fr L H fun fr L H=>execsP E all p fr L H k
  | none=>False
 | .alt i p q,fr,L,H,k=>(match all[i]? with
  | some o=>execs E true all [o] fr L H fun fr L H=>execsP E all p fr L H k
  | none=>False) ∧ execsP E all q fr L H k
 | .no,_,_,_,_=>True
 | .pre i p,fr,L,H,k=>(match all[i]? with
  | some o=>execs E true all [o] fr L H fun _ L' _=>L' = L
  | none=>False) ∧ execsP E all p fr L H k
 | .ld i p,fr,L,H,k=>match all[i]? with
  | some o=>execs E true all [o] fr L [] fun fr _ _=>execsP E all p fr L H k
  | none=>False
 | .kl i p,fr,L,H,k=>match all[i]? with
  | some o=>execs E true all [o] fr L H fun fr L' H=>L' = L ∧ execsP E all p fr L' H k
  | none=>False
 | .mu i p,fr,L,H,k=>match all[i]? with
  | some o=>execs E false all [o] fr L H fun fr L' H=>L' = L ∧ execsP E all p fr L' H k
  | none=>False
 | .am i p q,fr,L,H,k=>(match all[i]? with
  | some o=>execs E false all [o] fr L H fun fr L' H=>L' = L ∧ execsP E all p fr L' H k
  | none=>False) ∧ execsP E all q fr L H k
def newK:Op → Bool
 | .alloc _=>true
 | .box _ _=>true
 | .buildSlice ..=>true
 | .makeSlice ..=>true
 | _=>false
def apB (ops:List Oper) (i j:Nat):Bool:=
 match ops[i]?,ops[j]? with
 | some a,some b=>Oper.apart ops.toArray a b
 | _,_=>false
def newB (ops:List Oper) (i:Nat) (C1:List Nat):Bool:=
 match ops[i]? with
 | some o=>newK o.op && o.guard.isNone && o.after.toList.all fun e=>!Region.binds .any e || C1.contains e.on
 | none=>false
def newKB (ops:List Oper) (i:Nat):Bool:=
 match ops[i]? with
 | some o=>newK o.op
 | none=>false
def stepB (F G:Nat → Bool) (ops:List Oper) (i:Nat) (C1 Pq:List Nat):Bool:=
 (List.range ops.length).all fun j=>C1.contains j || j == i || (bif Pq.contains j then newKB ops j && apB ops j i && !G j else bif Pq.contains i then ((masks ops []).getD j 0).testBit i else pairB F G ops (masks ops []) i j)
def planB (F G:Nat → Bool) (ops:List Oper):Plan → List Nat → List Nat → List Nat → Bool
 | .fin,C1,Pq,hd=>hd.isEmpty && Pq.isEmpty && (List.range ops.length).all fun i=>C1.contains i
 | .one i p,C1,Pq,hd=>hd.isEmpty && decide (i < ops.length) && !C1.contains i && !F i && !G i && stepB F G ops i C1 Pq && planB F G ops p (C1 ++ [i]) (Pq.filter (· != i)) []
 | .kl i p,C1,Pq,hd=>hd.isEmpty && decide (i < ops.length) && !C1.contains i && !F i && !Pq.contains i && stepB F G ops i C1 Pq && planB F G ops p (C1 ++ [i]) Pq []
 | .mu i p,C1,Pq,hd=>hd.isEmpty && decide (i < ops.length) && !C1.contains i && !F i && !Pq.contains i && G i && (match ops[i]? with | some o=>!isFree o.op | none=>false) && stepB F G ops i C1 Pq && planB F G ops p (C1 ++ [i]) Pq []
 | .ld i p,C1,Pq,hd=>hd.isEmpty && decide (i < ops.length) && !C1.contains i && F i && !Pq.contains i && (match ops[i]? with | some o=>isLoad o.op | none=>false) && stepB F G ops i C1 Pq && planB F G ops p (C1 ++ [i]) Pq []
 | .pre i p,C1,Pq,hd=>hd.isEmpty && decide (i < ops.length) && !C1.contains i && !Pq.contains i && newB ops i C1 && (Pq.all fun j=>apB ops j i) && planB F G ops p C1 (Pq ++ [i]) []
 | .alt i p q,C1,Pq,hd=>decide (i < ops.length) && !C1.contains i && Pq.isEmpty && !F i && !G i && planB F G ops p (C1 ++ [i]) [] [] && planB F G ops q C1 [] (i :: hd)
 | .am i p q,C1,Pq,hd=>decide (i < ops.length) && !C1.contains i && Pq.isEmpty && !F i && G i && planB F G ops p (C1 ++ [i]) [] [] && planB F G ops q C1 [] (i :: hd)
 | .no,C1,Pq,hd=>!hd.isEmpty && Pq.isEmpty && (List.range ops.length).all fun r=>C1.contains r || hd.contains r || !(match ops[r]? with | some o=>o.after.toList.all fun e=>!Region.binds .any e || C1.contains e.on | none=>false)
def ldsP:Plan → List Nat
 | .fin=>[]
 | .no=>[]
 | .one _ p=>ldsP p
 | .kl _ p=>ldsP p
 | .mu _ p=>ldsP p
 | .pre _ p=>ldsP p
 | .ld i p=>i :: ldsP p
 | .alt _ p q=>ldsP p ++ ldsP q
 | .am _ p q=>ldsP p ++ ldsP q
def klsP:Plan → List Nat
 | .fin=>[]
 | .no=>[]
 | .one _ p=>klsP p
 | .kl i p=>i :: klsP p
 | .mu i p=>i :: klsP p
 | .pre _ p=>klsP p
 | .ld _ p=>klsP p
 | .alt _ p q=>klsP p ++ klsP q
 | .am i p q=>i :: (klsP p ++ klsP q)
def planC (ops:List Oper) (p:Plan):Bool:=planB (fun i=>(ldsP p).contains i) (fun i=>(klsP p).contains i) ops p [] [] []
def cnt:Nat → (Nat → Bool) → Nat
 | 0,_=>0
 | n + 1,f=>cnt n f + if f n then 1 else 0
theorem cnt_same {f g:Nat → Bool}:∀ {n:Nat},(∀ i,i < n → f i = g i) → cnt n f = cnt n g
 | 0,_=>rfl
 | n + 1,h=>by rw [cnt,cnt,cnt_same fun i hi=>h i (by omega),h n (by omega)]
theorem cnt_less {f g:Nat → Bool} {i:Nat}:∀ {n:Nat},i < n → f i = true → g i = false → (∀ j,j ≠ i → f j = g j) → cnt n g + 1 = cnt n f
 | 0,h,_,_,_=>by omega
 | n + 1,h,hf,hg,hs=>by
  by_cases e:i = n
  ·subst e
   rw [cnt,cnt,cnt_same (n:=i) (f:=f) (g:=g) fun j hj=>hs j (by omega),hf,hg]
   simp
  ·have:=cnt_less (n:=n) (by omega) hf hg hs
   rw [cnt,cnt,hs n (by omega)]
   omega
theorem cnt_zero {f:Nat → Bool}:∀ {n:Nat},cnt n f = 0 → ∀ i,i < n → f i = false
 | 0,_,i,hi=>by omega
 | n + 1,h,i,hi=>by
  rw [cnt] at h
  by_cases e:i = n
  ·subst e
   cases hb:f i with
   | false=>rfl
   | true=>rw [hb] at h; simp at h
  ·exact cnt_zero (n:=n) (by omega) i (by omega)
theorem cnt_le (f:Nat → Bool):∀ n,cnt n f ≤ n
 | 0=>Nat.le_refl _
 | n + 1=>by have:=cnt_le f n; rw [cnt]; split <;> omega
def Agr (op:Op) (fr fr':List SV):Prop:=∀ x ∈ op.operands,∀ bs,(op1 fr x).real bs = (op1 fr' x).real bs
theorem Agr.refl (op:Op) (fr:List SV):Agr op fr fr:=fun _ _ _=>rfl
theorem Agr.trans {op:Op} {a b c:List SV} (h:Agr op a b) (k:Agr op b c):Agr op a c:=fun x hx bs=>(h x hx bs).trans (k x hx bs)
theorem withV_is {s:SV} {K:Value → Prop} {x:Value} (hx:∀ bs,s.real bs = x) (k:withV s K):K x:=by
 obtain ⟨y,hy,hk⟩:=withV_iff k
 have:y = x:=(hy fun _=>0).symm.trans (hx fun _=>0)
 subst this
 exact hk
theorem withV_of {s:SV} {K:Value → Prop} {x:Value} (hx:∀ bs,s.real bs = x) (k:K x):withV s K:=by
 cases s with
 | v y=>have:y = x:=hx fun _=>0; subst this; exact k
 | b t=>have:.bool t = x:=hx fun _=>0; subst this; exact k
 | p j o=>
  have h0:=hx fun _=>0
  have h1:=hx fun _=>1
  rw [← h0] at h1
  simp [SV.real] at h1
theorem withVs_is:∀ {l:List SV} {K:List Value → Prop} {xs:List Value},(∀ bs,l.map (SV.real bs) = xs) → withVs l K → K xs:=fun hx k=>by
 obtain ⟨ys,hy,hk⟩:=withVs_iff k
 have:=(hy fun _=>0).symm.trans (hx fun _=>0)
 subst this
 exact hk
theorem withVs_of:∀ {l:List SV} {K:List Value → Prop} {xs:List Value},(∀ bs,l.map (SV.real bs) = xs) → K xs → withVs l K
 | [],K,xs,hx,k=>by have:=hx fun _=>0; simp at this; subst this; exact k
 | s :: l,K,xs,hx,k=>by
  cases xs with
  | nil=>have:=hx fun _=>0; simp at this
  | cons x xs=>
   refine withV_of (x:=x) (fun bs=>by have:=hx bs; simp at this; exact this.1) ?_
   exact withVs_of (xs:=xs) (fun bs=>by have:=hx bs; simp at this; simpa using this.2) k
structure NewSp (E:Env) (fr:List SV) (d:Option Nat) (op:Op) (v:Nat → Value) (f:Nat → HO):Prop where
 run:∀ fr' L H (k:SV → List Box → List HO → Prop),Agr op fr fr' → (∀ b,k (.v (v b)) L (f b :: H)) → exec1 E true fr' L H d op k
 take:∀ fr' L H (k:SV → List Box → List HO → Prop),Agr op fr fr' → exec1 E true fr' L H d op k → ∀ b,k (.v (v b)) L (f b :: H)
theorem new_box {E:Env} {d:Option Nat} {T:TypeId} {cs:List Value} {L:List Box} {H:List HO} (h:newBox E d T cs L H fun _ L' _=>L' = L):∃ d',d = some d' ∧ E.re.contains d' = true:=by
 unfold newBox at h
 split at h
 ·rename_i d'
  split at h
  ·rename_i hre
   exact ⟨d',rfl,hre⟩
  ·simp at h
 ·exact h.elim
theorem newBox_re {E:Env} {d:Nat} {T:TypeId} {cs:List Value} {L:List Box} {H:List HO} {k:SV → List Box → List HO → Prop} (h:E.re.contains d = true):newBox E (some d) T cs L H k ↔ ∀ b,k (.v (.pointer (some ⟨b,0,none⟩))) L (.cells b T cs :: H):=by
 unfold newBox
 simp only [h,if_true]
theorem new_spec {E:Env} {fr:List SV} {L:List Box} {H:List HO} {d:Option Nat} {op:Op} (hn:newK op = true) (h:exec1 E true fr L H d op fun _ L' _=>L' = L):∃ v f,NewSp E fr d op v f:=by
 cases op with
 | alloc T=>
  have h':∃ z,zeroT E.P T = some z ∧ newBox E d T z L H fun _ L' _=>L' = L:=h
  obtain ⟨z,hz,hb⟩:=h'
  obtain ⟨d',rfl,hre⟩:=new_box hb
  refine ⟨fun b=>.pointer (some ⟨b,0,none⟩),fun b=>.cells b T z,⟨fun fr' L H k _ hk=>?_,fun fr' L H k _ hk=>?_⟩⟩
  ·exact (show ∃ z,zeroT E.P T = some z ∧ newBox E (some d') T z L H k from ⟨z,hz,(newBox_re hre).2 hk⟩)
  ·obtain ⟨z',hz',hb'⟩:=(show ∃ z,zeroT E.P T = some z ∧ newBox E (some d') T z L H k from hk)
   rw [hz] at hz'
   cases hz'
   exact (newBox_re hre).1 hb'
 | box T x=>
  have h':withV (op1 fr x) fun x=>newBox E d T (vcells x) L H fun _ L' _=>L' = L:=h
  obtain ⟨y,hy,hb⟩:=withV_iff h'
  obtain ⟨d',rfl,hre⟩:=new_box hb
  have ha:∀ fr',Agr (.box T x) fr fr' → ∀ bs,(op1 fr' x).real bs = y:=fun fr' ha bs=>(ha x (by simp [Op.operands]) bs).symm.trans (hy bs)
  refine ⟨fun b=>.pointer (some ⟨b,0,none⟩),fun b=>.cells b T (vcells y),⟨fun fr' L H k hg hk=>?_,fun fr' L H k hg hk=>?_⟩⟩
  ·exact (show withV (op1 fr' x) fun x=>newBox E (some d') T (vcells x) L H k from withV_of (ha fr' hg) ((newBox_re hre).2 hk))
  ·exact (newBox_re hre).1 (withV_is (ha fr' hg) (show withV (op1 fr' x) fun x=>newBox E (some d') T (vcells x) L H k from hk))
 | buildSlice T n ps=>
  have h':withVs (ps.toList.map fun p=>op1 fr p.2) fun xs=>bsS (elT E.P T) n ((ps.toList.map (·.1)).zip xs) L H fun _ L' _=>L' = L:=h
  obtain ⟨xs,hx,hb⟩:=withVs_iff h'
  have ha:∀ fr',Agr (.buildSlice T n ps) fr fr' → ∀ bs,(ps.toList.map fun p=>op1 fr' p.2).map (SV.real bs) = xs:=fun fr' ha bs=>by
   rw [← hx bs,List.map_map,List.map_map]
   refine List.map_congr_left fun p hp=>?_
   exact (ha p.2 (by simp [Op.operands]; exact ⟨p.1,by simpa using hp⟩) bs).symm
  unfold bsS at hb
  split at hb
  ·rename_i e sz z by_ hk
   obtain ⟨hlim,cs,hfill,_⟩:=hb
   refine ⟨fun b=>.slice (some ⟨b,0,none⟩) n n,fun b=>.row (.slice (some ⟨b,0,none⟩) n n) e sz cs,⟨fun fr' L H k hg hk'=>?_,fun fr' L H k hg hk'=>?_⟩⟩
   ·refine (show withVs (ps.toList.map fun p=>op1 fr' p.2) fun xs=>bsS (elT E.P T) n ((ps.toList.map (·.1)).zip xs) L H k from withVs_of (ha fr' hg) ?_)
    unfold bsS
    rw [hk]
    exact ⟨hlim,cs,hfill,hk'⟩
   ·have:=withVs_is (ha fr' hg) (show withVs (ps.toList.map fun p=>op1 fr' p.2) fun xs=>bsS (elT E.P T) n ((ps.toList.map (·.1)).zip xs) L H k from hk')
    unfold bsS at this
    rw [hk] at this
    obtain ⟨_,cs',hf',hb'⟩:=this
    rw [hfill] at hf'
    cases hf'
    exact hb'
  ·exact hb.elim
 | makeSlice T n c=>
  have h':withV (op1 fr n) fun n=>withV (op1 fr c) fun c=>mkS (elT E.P T) n c L H fun _ L' _=>L' = L:=h
  obtain ⟨x,hx,h1⟩:=withV_iff h'
  obtain ⟨y,hy,hb⟩:=withV_iff h1
  have ha:∀ fr',Agr (.makeSlice T n c) fr fr' → ∀ bs,(op1 fr' n).real bs = x:=fun fr' ha bs=>(ha n (by simp [Op.operands]) bs).symm.trans (hx bs)
  have hc:∀ fr',Agr (.makeSlice T n c) fr fr' → ∀ bs,(op1 fr' c).real bs = y:=fun fr' ha bs=>(ha c (by simp [Op.operands]) bs).symm.trans (hy bs)
  unfold mkS at hb
  split at hb
  ·rename_i e sz z by_ kn nn kc cc hk
   obtain ⟨q1,q2,q3,_⟩:=hb
   refine ⟨fun b=>.slice (some ⟨b,0,none⟩) nn.toNat cc.toNat,fun b=>.row (.slice (some ⟨b,0,none⟩) nn.toNat cc.toNat) e sz (zerosL nn.toNat z),⟨fun fr' L H k hg hk'=>?_,fun fr' L H k hg hk'=>?_⟩⟩
   ·refine (show withV (op1 fr' n) fun n=>withV (op1 fr' c) fun c=>mkS (elT E.P T) n c L H k from withV_of (ha fr' hg) (withV_of (hc fr' hg) ?_))
    unfold mkS
    rw [hk]
    exact ⟨q1,q2,q3,hk'⟩
   ·have:=withV_is (hc fr' hg) (withV_is (ha fr' hg) (show withV (op1 fr' n) fun n=>withV (op1 fr' c) fun c=>mkS (elT E.P T) n c L H k from hk'))
    unfold mkS at this
    rw [hk] at this
    exact this.2.2.2
  ·exact hb.elim
 | _=>simp [newK] at hn
theorem pairsB_snoc {p:Nat → Nat → Bool}:∀ {l:List Nat} {a:Nat},pairsB p l = true → (∀ d ∈ l,p d a = true) → pairsB p (l ++ [a]) = true
 | [],a,_,_=>by simp [pairsB]
 | x :: l,a,h,ha=>by
  simp only [pairsB,Bool.and_eq_true,List.all_eq_true,List.cons_append] at h ⊢
  refine ⟨fun y hy=>?_,pairsB_snoc h.2 fun d hd=>ha d (List.mem_cons_of_mem _ hd)⟩
  rcases List.mem_append.1 hy with hy | hy
  ·exact h.1 y hy
  ·rw [List.mem_singleton] at hy
   subst hy
   exact ha x List.mem_cons_self
theorem frame_step {w0:Base} {bs bs':Nat → Nat} {ks:List (Nat × Obj)} {L L':List Box} {G H H':List HO} {w w':World} (r:Rel w0 bs ks L (G ++ H) w) (hc:Come bs bs' L L' H H' w w') (r':Rel w0 bs' ks L' H' w'):
  Rel w0 bs' ks L' (G ++ H') w' ∧ Come bs bs' L L' (G ++ H) (G ++ H') w w':=by
 have hnd:=List.pairwise_append.1 r.hp.nd
 have hg:∀ g ∈ G,g ∈ G ++ H:=fun g hg=>List.mem_append_left _ hg
 have hlt:∀ g ∈ G,∀ b,g.fp b → b < w.heap.size:=fun g hgm b hb=>HO.lt (r.hp.ok g (hg g hgm)) hb
 have hnx:∀ g ∈ G,∀ b,g.fp b → ¬ fpsx H b:=fun g hgm b hb ⟨h,hh,hx⟩=>(hnd.2.2 g hgm h hh b hb (HO.fp_of_fpx hx)).2 hx
 have hch:∀ g ∈ G,∀ b,g.fp b → ¬ (fpsx H b ∨ ∃ j,j < L.length ∧ b = bs j):=fun g hgm b hb hx=>by
  rcases hx with hx | ⟨j,hj,rfl⟩
  ·exact hnx g hgm b hb hx
  ·exact r.bh j hj g (hg g hgm) hb
 refine ⟨⟨⟨r'.hp.ext,fun h hh=>?_,fun h hh b hb=>?_,List.pairwise_append.2 ⟨hnd.1,r'.hp.nd,fun g hgm h hh b hb hb'=>?_⟩⟩,r'.box,r'.bold,r'.bnd,fun j hj h hh hb=>?_,r'.kok,r'.kold,fun x hx h hh hb=>?_,r'.kb⟩,hc.agree,hc.le,⟨hc.frm.keep.mono fun b hb=>?_,fun b hb=>?_,fun b hb=>?_,hc.frm.bx⟩⟩
 ·rcases List.mem_append.1 hh with hh | hh
  ·exact HO.stable (r.hp.ok h (hg h hh)) (hc.frm.keep.sameOn (hlt h hh) (hch h hh))
  ·exact r'.hp.ok h hh
 ·rcases List.mem_append.1 hh with hh | hh
  ·exact r.hp.old h (hg h hh) b hb
  ·exact r'.hp.old h hh b hb
 ·have hbl:=hlt g hgm b hb
  rcases hc.frm.fp b ⟨h,hh,hb'⟩ with ⟨h0,hh0,hb0⟩ | hx
  ·refine ⟨(hnd.2.2 g hgm h0 hh0 b hb hb0).1,fun hx=>?_⟩
   rcases hc.frm.fx b ⟨h,hh,hx⟩ with hx | hx
   ·exact hnx g hgm b hb hx
   ·omega
  ·omega
 ·rcases List.mem_append.1 hh with hh | hh
  ·rcases hc.frm.bx j hj with ⟨i,hi,e⟩ | hx
   ·rw [e] at hb
    exact r.bh i hi h (hg h hh) hb
   ·have:=hlt h hh _ hb
    omega
  ·exact r'.bh j hj h hh hb
 ·rcases List.mem_append.1 hh with hh | hh
  ·exact r.kh x hx h (hg h hh) hb
  ·exact r'.kh x hx h hh hb
 ·rcases hb with ⟨h,hh,hx⟩ | hx
  ·exact .inl ⟨h,List.mem_append_right _ hh,hx⟩
  ·exact .inr hx
 ·obtain ⟨h,hh,hx⟩:=hb
  rcases List.mem_append.1 hh with hh | hh
  ·exact .inl ⟨h,List.mem_append_left _ hh,hx⟩
  ·rcases hc.frm.fp b ⟨h,hh,hx⟩ with ⟨h0,hh0,hb0⟩ | hx
   ·exact .inl ⟨h0,List.mem_append_right _ hh0,hb0⟩
   ·exact .inr hx
 ·obtain ⟨h,hh,hx⟩:=hb
  rcases List.mem_append.1 hh with hh | hh
  ·exact .inl ⟨h,List.mem_append_left _ hh,hx⟩
  ·rcases hc.frm.fx b ⟨h,hh,hx⟩ with ⟨h0,hh0,hb0⟩ | hx
   ·exact .inl ⟨h0,List.mem_append_right _ hh0,hb0⟩
   ·exact .inr hx
theorem Come.imp {w0:Base} {bs bs':Nat → Nat} {L L':List Box} {H H' H2:List HO} {w w':World} (h:Come bs bs' L L' H H' w w') (hp:Hp w0 H' w') (hi:HImp w0 H' H2):Come bs bs' L L' H H2 w w':=⟨h.agree,h.le,h.frm.imp hp hi⟩
structure Ahd where
 i:Nat
 d:Option Nat
 v:Value
 h:HO
def putA (A:List Ahd) (fr:List SV):List SV:=A.foldl (fun fr a=>put fr a.d (.v a.v)) fr
theorem putA_feq:∀ (A:List Ahd) {a b:List SV},FEq a b → FEq (putA A a) (putA A b)
 | [],_,_,h=>h
 | x :: A,_,_,h=>putA_feq A (h.put x.d (.v x.v))
theorem putA_put:∀ (A:List Ahd) (fr:List SV) (d:Option Nat) (s:SV),(∀ a ∈ A,∀ e,d = some e → a.d ≠ some e) → FEq (putA A (put fr d s)) (put (putA A fr) d s)
 | [],fr,d,s,_=>FEq.refl _
 | x :: A,fr,d,s,h=>by
  have h1:FEq (put (put fr d s) x.d (.v x.v)) (put (put fr x.d (.v x.v)) d s):=put_comm fun e he=>h x List.mem_cons_self e he
  exact (putA_feq A h1).trans (putA_put A _ d s fun a ha=>h a (List.mem_cons_of_mem _ ha))
theorem putA_at:∀ (A:List Ahd) (fr:List SV) (t:Nat),(∀ a ∈ A,a.d ≠ some t) → ∀ bs,(fget (putA A fr) t).real bs = (fget fr t).real bs
 | [],_,_,_,_=>rfl
 | x :: A,fr,t,h,bs=>by
  show (fget (putA A (put fr x.d (.v x.v))) t).real bs = _
  rw [putA_at A _ t (fun a ha=>h a (List.mem_cons_of_mem _ ha)) bs]
  exact put_other (fun e he e'=>h x List.mem_cons_self (by rw [e']; exact he)) bs
theorem apart_symm {ops:Array Oper} {x y:Oper} (h:x.apart ops y = true):y.apart ops x = true:=by
 obtain ⟨h1,h2,h3⟩:=Oper.apart_spec h
 unfold Oper.apart
 cases hx:x.dst with
 | none=>
  cases hy:y.dst with
  | none=>rfl
  | some e=>simp [h3 e hy]
 | some d=>
  cases hy:y.dst with
  | none=>simp [h1 d hx]
  | some e=>
   have:=h2 d hx
   rw [hy] at this
   simp [h1 d hx,h3 e hy]
   exact fun e'=>this (by rw [e'])
theorem apB_spec {ops:Array Oper} {i j:Nat} (h:apB ops.toList i j = true):∃ a b,ops[i]? = some a ∧ ops[j]? = some b ∧ a.apart ops b = true:=by
 unfold apB at h
 split at h
 ·rename_i a b ha hb
  exact ⟨a,b,by simpa using ha,by simpa using hb,by simpa using h⟩
 ·cases h
theorem apB_of {ops:Array Oper} {i j:Nat} {a b:Oper} (h:apB ops.toList i j = true) (ha:ops[i]? = some a) (hb:ops[j]? = some b):a.apart ops b = true:=by
 obtain ⟨a',b',ha',hb',h⟩:=apB_spec h
 rw [ha] at ha'
 rw [hb] at hb'
 cases ha'
 cases hb'
 exact h
theorem newKB_of {ops:Array Oper} {i:Nat} {a:Oper} (h:newKB ops.toList i = true) (ha:ops[i]? = some a):newK a.op = true:=by
 unfold newKB at h
 rw [Array.getElem?_toList,ha] at h
 exact h
theorem newK_free {op:Op} (h:newK op = true):isFree op = false:=by
 cases op <;> simp [newK] at h <;> rfl
theorem newK_store {op:Op} (h:newK op = true):storeLike op = false:=by
 cases op <;> simp [newK] at h <;> rfl
theorem Agr.put {ops:Array Oper} {o:Oper} {fr:List SV} {d:Option Nat} {s:SV} (h:∀ e,d = some e → e ∉ o.looksAt ops):Agr o.op fr (put fr d s):=fun x hx bs=>
 op1_same (ops:=ops) (o:=o) (fun t ht bs=>(put_other (fun e he e'=>h e he (e' ▸ ht)) bs).symm) hx bs
theorem Agr.feq {op:Op} {a b:List SV} (h:FEq a b):Agr op a b:=fun x _ bs=>op1_feq h x bs
theorem dep_listed {ops:Array Oper} {i j:Nat} {listed:Array Bool} (hcl:ClosedS ops.toList (fun i=>listed.getD i false = true)) (hj:j < ops.size) (hdeps:∀ o,ops[j]? = some o → ∀ e ∈ o.after.toList,Region.binds .any e = true → listed.getD e.on false = true)
  (hp:((masks ops.toList []).getD j 0).testBit i = true):listed.getD i false = true ∨ i = j:=by
 have hS:ClosedS ops.toList (fun x=>listed.getD x false = true ∨ x = j):=by
  intro x o ho hx e he hb
  rcases hx with hx | rfl
  ·exact .inl (hcl x o ho hx e he hb)
  ·exact .inl (hdeps o (by simpa using ho) e he hb)
 exact masks_spec ops.toList _ hS ops.toList [] (fun k o h=>by simpa using h) (fun x y hx=>by simp at hx) j i (by simpa using hj) (.inr rfl) hp
theorem stepB_spec {F G:Nat → Bool} {ops:Array Oper} {i:Nat} {C1 Pq:List Nat} (h:stepB F G ops.toList i C1 Pq = true) (j:Nat) (hj:j < ops.size) (hjC:j ∉ C1) (hji:j ≠ i):
  (j ∈ Pq → (newKB ops.toList j = true ∧ apB ops.toList j i = true) ∧ G j = false) ∧ (j ∉ Pq → i ∈ Pq → ((masks ops.toList []).getD j 0).testBit i = true) ∧ (j ∉ Pq → i ∉ Pq → pairB F G ops.toList (masks ops.toList []) i j = true):=by
 unfold stepB at h
 rw [List.all_eq_true] at h
 have h':=h j (by simpa using hj)
 simp only [Bool.or_eq_true,List.contains_eq_mem,decide_eq_true_eq,hjC,false_or,beq_iff_eq,hji] at h'
 by_cases hp:j ∈ Pq
 ·simp only [hp,decide_true,cond_true,Bool.and_eq_true,Bool.not_eq_true'] at h'
  exact ⟨fun _=>h',fun x=>absurd hp x,fun x=>absurd hp x⟩
 ·simp only [hp,decide_false,cond_false] at h'
  refine ⟨fun x=>absurd x hp,fun _ hi=>?_,fun _ hi=>?_⟩
  ·simpa [hi] using h'
  ·simpa [hi] using h'
structure PB (F G:Nat → Bool) (E:Env) (ops:Array Oper) (listed:Array Bool) (HM:List HO) (C1 Pq D:List Nat) (A:List Ahd) (frM frC:List SV) (L:List Box) (H:List HO):Prop where
 rep:Replay F E ops D frM L H (putA A frC)
 wfC:WfFr L.length frC
 sub:∀ d ∈ D,d ∈ C1
 lt:∀ c ∈ C1,c < ops.size
 lst:∀ i,i < ops.size → (listed.getD i false = true ↔ (i ∈ C1 ∧ i ∉ D) ∨ ∃ a ∈ A,a.i = i)
 prs:pairsB (pairB F G ops.toList (masks ops.toList [])) D = true
 out:∀ d ∈ D,∀ j,j < ops.size → j ∉ C1 → pairB F G ops.toList (masks ops.toList []) d j = true ∨ ((newKB ops.toList j = true ∧ apB ops.toList j d = true) ∧ G j = false)
 pq:∀ i ∈ Pq,i < ops.size ∧ i ∉ C1 ∧ ∃ o fr0 v f,ops[i]? = some o ∧ o.guard = none ∧ newK o.op = true ∧ NewSp E fr0 o.dst o.op v f ∧ Agr o.op fr0 frC ∧ ∀ a ∈ A,a.i = i → ∃ b,a.d = o.dst ∧ a.v = v b ∧ a.h = f b
 pp:∀ i ∈ Pq,∀ j ∈ Pq,i ≠ j → apB ops.toList i j = true
 aq:∀ a ∈ A,a.i ∈ Pq
 nd:(A.map (·.i)).Nodup
 hm:(A.map (·.h) ++ H).Perm HM
section
variable {F G:Nat → Bool} {E:Env} {ops:Array Oper} {listed:Array Bool} {HM:List HO} {C1 Pq D:List Nat} {A:List Ahd} {frM frC:List SV} {L:List Box} {H:List HO}
theorem PB.adst (inv:PB F G E ops listed HM C1 Pq D A frM frC L H) {a:Ahd} (ha:a ∈ A):∃ o,ops[a.i]? = some o ∧ a.d = o.dst:=by
 obtain ⟨_,_,o,fr0,v,f,ho,_,_,_,_,hA⟩:=inv.pq _ (inv.aq a ha)
 obtain ⟨b,hd,_⟩:=hA a ha rfl
 exact ⟨o,ho,hd⟩
theorem PB.take (inv:PB F G E ops listed HM C1 Pq D A frM frC L H) {a:Ahd} (ha:a ∈ A) (hs:stepB F G ops.toList a.i C1 Pq = true) {o:Oper} (ho:ops[a.i]? = some o) {K:List SV → List Box → List HO → Prop} (hex:execs E true ops.toList [o] frC L H K):
  ∃ A' frC' H',PB F G E ops listed HM (C1 ++ [a.i]) (Pq.filter (· != a.i)) D A' frM frC' L H' ∧ K frC' L H':=by
 have hai:=inv.aq a ha
 obtain ⟨hil,hiC,o',fr0,v,f,ho',hg,hn,hsp,hag,hA⟩:=inv.pq _ hai
 rw [ho] at ho'
 cases ho'
 obtain ⟨b,hd,hv,hh⟩:=hA a ha rfl
 have hex1:exec1 E true frC L H o.dst o.op fun s L H=>K (put frC o.dst s) L H:=by
  simp only [execs,hg] at hex
  exact hex
 have hk:=hsp.take _ _ _ _ hag hex1 b
 rw [← hd,← hv,← hh] at hk
 obtain ⟨A1,A2,rfl⟩:=List.append_of_mem ha
 have hapA:∀ x ∈ A1 ++ A2,x.i ≠ a.i:=fun x hx e=>by
  have hnd:=inv.nd
  rw [List.map_append,List.map_cons] at hnd
  have:=(List.Perm.nodup_iff List.perm_middle).1 hnd
  rw [List.nodup_cons] at this
  exact this.1 (by rw [← e,← List.map_append]; exact List.mem_map.2 ⟨x,hx,rfl⟩)
 have hsub:∀ x ∈ A1 ++ A2,x ∈ A1 ++ a :: A2:=fun x hx=>by
  rcases List.mem_append.1 hx with h | h
  ·exact List.mem_append_left _ h
  ·exact List.mem_append_right _ (List.mem_cons_of_mem _ h)
 have hpa:∀ j ∈ Pq,j ≠ a.i → ∀ oj,ops[j]? = some oj → oj.apart ops o = true:=fun j hj hne oj hoj=>apB_of (inv.pp j hj _ hai hne) hoj ho
 refine ⟨A1 ++ A2,put frC a.d (.v a.v),a.h :: H,⟨?_,?_,fun d hd'=>List.mem_append_left _ (inv.sub d hd'),fun c hc=>?_,fun i hi=>?_,inv.prs,fun d hd' j hj hjC=>inv.out d hd' j hj fun h=>hjC (List.mem_append_left _ h),fun i hi=>?_,fun i hi j hj hne=>?_,fun x hx=>?_,?_,?_⟩,hk⟩
 ·have h1:FEq (putA (A1 ++ a :: A2) frC) (putA (A1 ++ A2) (put frC a.d (.v a.v))):=by
   unfold putA
   rw [List.foldl_append,List.foldl_append,List.foldl_cons]
   refine putA_feq A2 (FEq.symm (putA_put A1 frC a.d (.v a.v) fun x hx e he=>?_))
   have hx':x ∈ A1 ++ A2:=List.mem_append_left _ hx
   obtain ⟨ox,hox,hdx⟩:=inv.adst (hsub x hx')
   have:=(Oper.apart_spec (hpa x.i (inv.aq x (hsub x hx')) (hapA x hx') ox hox)).2.1
   rw [hdx]
   intro e'
   exact this e e' (hd ▸ he)
  exact Replay.mono (Nat.le_refl _) (inv.rep.feqC h1) fun i hi o ho hl=>⟨List.prefix_refl _,fun _ x hx=>List.mem_cons_of_mem _ hx⟩
 ·exact inv.wfC.put (y:=.v a.v) trivial _
 ·rcases List.mem_append.1 hc with h | h
  ·exact inv.lt c h
  ·rw [List.mem_singleton] at h; subst h; exact hil
 ·rw [inv.lst i hi]
  have haD:a.i ∉ D:=fun h=>hiC (inv.sub _ h)
  constructor
  ·rintro (⟨h1,h2⟩ | ⟨x,hx,rfl⟩)
   ·exact .inl ⟨List.mem_append_left _ h1,h2⟩
   ·by_cases e:x.i = a.i
    ·exact .inl ⟨List.mem_append_right _ (by simp [e]),e ▸ haD⟩
    ·refine .inr ⟨x,?_,rfl⟩
     rcases List.mem_append.1 hx with h | h
     ·exact List.mem_append_left _ h
     ·rcases List.mem_cons.1 h with rfl | h
      ·exact absurd rfl e
      ·exact List.mem_append_right _ h
  ·rintro (⟨h1,h2⟩ | ⟨x,hx,rfl⟩)
   ·rcases List.mem_append.1 h1 with h | h
    ·exact .inl ⟨h,h2⟩
    ·rw [List.mem_singleton] at h
     exact .inr ⟨a,ha,h.symm⟩
   ·exact .inr ⟨x,hsub x hx,rfl⟩
 ·rw [List.mem_filter] at hi
  have hne:i ≠ a.i:=by simpa using hi.2
  obtain ⟨h1,h2,oi,fr1,v1,f1,h3,h4,h5,h6,h7,h8⟩:=inv.pq i hi.1
  refine ⟨h1,fun h=>?_,oi,fr1,v1,f1,h3,h4,h5,h6,h7.trans (Agr.put (ops:=ops) fun e he=>?_),fun x hx hxi=>h8 x (hsub x hx) hxi⟩
  ·rcases List.mem_append.1 h with h | h
   ·exact h2 h
   ·exact hne (by simpa using h)
  ·exact (Oper.apart_spec (hpa i hi.1 hne oi h3)).2.2 e (hd ▸ he)
 ·rw [List.mem_filter] at hi hj
  exact inv.pp i hi.1 j hj.1 hne
 ·rw [List.mem_filter]
  exact ⟨inv.aq x (hsub x hx),by simpa using hapA x hx⟩
 ·exact (List.Sublist.map _ (List.Sublist.append (List.Sublist.refl A1) (List.sublist_cons_self a A2))).nodup inv.nd
 ·refine List.Perm.trans ?_ inv.hm
  simp only [List.map_append,List.map_cons,List.append_assoc,List.cons_append]
  refine List.Perm.append_left _ ?_
  exact List.perm_middle
end
section
variable {F G:Nat → Bool} {E:Env} {ops:Array Oper} {listed:Array Bool} {HM:List HO} {C1 Pq D:List Nat} {A:List Ahd} {frM frC:List SV} {L:List Box} {H:List HO}
theorem PB.putOff (hE:E.Fine) (inv:PB F G E ops listed HM C1 Pq D A frM frC L H) {y:Nat} {oy:Oper} (hoy:ops[y]? = some oy) (hfree:isFree oy.op = true) (hyC:y ∉ C1) (hyP:y ∉ Pq) (hs:stepB F G ops.toList y C1 Pq = true) {K:List SV → List Box → List HO → Prop}
  (hex:execs E true ops.toList [oy] frC L (hF F y H) K):∃ frC',PB F G E ops listed HM (C1 ++ [y]) Pq (D ++ [y]) A frM frC' L H ∧ K frC' L (hF F y H):=by
 have hyl:y < ops.size:=(Array.getElem?_eq_some_iff.1 hoy).1
 obtain ⟨fr1,he1,hf1,h⟩:=execs_cons hex
 have hws:wantedS ops.toList fr1 oy = wantedS ops.toList frC oy:=by rw [← wantedS_eq (fun _=>0),← wantedS_eq (fun _=>0),he1.rf]
 have hapA:∀ a ∈ A,∃ oa,ops[a.i]? = some oa ∧ a.d = oa.dst ∧ oa.apart ops oy = true:=fun a ha=>by
  obtain ⟨oa,hoa,hd⟩:=inv.adst ha
  have hai:=inv.aq a ha
  have hne:a.i ≠ y:=fun e=>hyP (e ▸ hai)
  obtain ⟨hal,haC,_⟩:=inv.pq _ hai
  exact ⟨oa,hoa,hd,apB_of ((stepB_spec hs a.i hal haC hne).1 hai).1.2 hoa hoy⟩
 have step:∃ s,Val E ops.toList fr1 L (hF F y H) oy s ∧ K (put fr1 oy.dst s) L (hF F y H):=by
  rcases h with ⟨hw,h⟩ | ⟨hw,h⟩
  ·unfold exec1 at h
   simp only [hfree,cond_true] at h
   obtain ⟨s,hk,hwf,hg⟩:=free_sound hE h
   simp only [execs] at hk
   exact ⟨s,⟨hwf _ (hf1 _ inv.wfC),.inl ⟨hws.trans hw,hfree,hg⟩⟩,hk⟩
  ·simp only [execs] at h
   exact ⟨.v undef,⟨(trivial:SV.wf _ (.v undef)),.inr ⟨hws.trans hw,rfl⟩⟩,h⟩
 obtain ⟨s,hv,hk⟩:=step
 have hlk:∀ t ∈ oy.looksAt ops,∀ bs,(fget fr1 t).real bs = (fget (putA A frC) t).real bs:=fun t ht bs=>by
  rw [putA_at A frC t (fun a ha e=>by
   obtain ⟨oa,_,hd,hap⟩:=hapA a ha
   exact (Oper.apart_spec hap).1 t (hd ▸ e) ht) bs]
  exact he1.2 t bs
 have hsn:=Replay.snoc hoy inv.rep (hv.same hlk)
 have hcm:FEq (put (putA A frC) oy.dst s) (putA A (put fr1 oy.dst s)):=
  ((FEq.symm (putA_put A frC oy.dst s fun a ha e he=>by
   obtain ⟨oa,_,hd,hap⟩:=hapA a ha
   rw [hd]
   intro e'
   exact (Oper.apart_spec hap).2.1 e e' he)).trans (putA_feq A ((FEq.symm he1).put _ s)))
 have hyD:y ∉ D:=fun h=>hyC (inv.sub y h)
 refine ⟨put fr1 oy.dst s,⟨hsn.feqC hcm,(hf1 _ inv.wfC).put hv.1 _,fun d hd=>?_,fun c hc=>?_,fun i hi=>?_,pairsB_snoc inv.prs fun d hd=>?_,fun d hd j hj hjC=>?_,fun i hi=>?_,inv.pp,inv.aq,inv.nd,inv.hm⟩,hk⟩
 ·rcases List.mem_append.1 hd with h | h
  ·exact List.mem_append_left _ (inv.sub d h)
  ·exact List.mem_append_right _ h
 ·rcases List.mem_append.1 hc with h | h
  ·exact inv.lt c h
  ·rw [List.mem_singleton] at h; subst h; exact hyl
 ·rw [inv.lst i hi]
  simp only [List.mem_append,List.mem_singleton,not_or]
  constructor
  ·rintro (⟨a,b⟩ | h)
   ·exact .inl ⟨.inl a,b,fun e=>hyC (e ▸ a)⟩
   ·exact .inr h
  ·rintro (⟨a | a,b,c⟩ | h)
   ·exact .inl ⟨a,b⟩
   ·exact absurd a c
   ·exact .inr h
 ·rcases inv.out d hd y hyl hyC with h | ⟨⟨h,_⟩,_⟩
  ·exact h
  ·have:=newK_free (newKB_of h hoy)
   rw [hfree] at this
   cases this
 ·simp only [List.mem_append,List.mem_singleton,not_or] at hjC
  rcases List.mem_append.1 hd with h | h
  ·exact inv.out d h j hj hjC.1
  ·rw [List.mem_singleton] at h
   subst h
   have:=stepB_spec hs j hj hjC.1 hjC.2
   by_cases hjp:j ∈ Pq
   ·exact .inr (this.1 hjp)
   ·exact .inl (this.2.2 hjp hyP)
 ·obtain ⟨h1,h2,oi,fr0,v1,f1,h3,h4,h5,h6,h7,h8⟩:=inv.pq i hi
  have hne:i ≠ y:=fun e=>hyP (e ▸ hi)
  refine ⟨h1,fun h=>?_,oi,fr0,v1,f1,h3,h4,h5,h6,(h7.trans (Agr.feq he1.symm)).trans (Agr.put (ops:=ops) fun e he=>?_),h8⟩
  ·rcases List.mem_append.1 h with h | h
   ·exact h2 h
   ·exact hne (by simpa using h)
  ·exact (Oper.apart_spec (apB_of ((stepB_spec hs i h1 h2 hne).1 hi).1.2 h3 hoy)).2.2 e he
def Found (F G:Nat → Bool) (E:Env) (ops:Array Oper) (listed:Array Bool) (HM:List HO) (frM:List SV) (L:List Box) (k:List SV → List Box → List HO → Prop) (m:Nat) (om:Oper):Prop:=
 (∃ p' C1' Pq' D' A' frC' H',planB F G ops.toList p' C1' Pq' [] = true ∧ execsP E ops.toList p' frC' L H' k ∧ PB F G E ops listed HM C1' Pq' D' A' frM frC' L H' ∧ (m ∈ D' ∨ m ∈ Pq')) ∨
 ∃ p' C1' Pq' D' A' frC' H' K,PB F G E ops listed HM C1' Pq' D' A' frM frC' L H' ∧ m ∉ C1' ∧ m ∉ Pq' ∧ F m = false ∧ (∃ dr,execs E dr ops.toList [om] frC' L H' K ∧ (dr = false → G m = true)) ∧
  (∀ fr L' H'',K fr L' H'' → (G m = true → L' = L) ∧ execsP E ops.toList p' fr L' H'' k) ∧ planB F G ops.toList p' (C1' ++ [m]) Pq' [] = true ∧ (∀ j ∈ Pq',apB ops.toList j m = true)
theorem filter_ne {l:List Nat} {a:Nat} (h:a ∉ l):l.filter (· != a) = l:=List.filter_eq_self.2 fun x hx=>by simpa using fun e:x = a=>h (e ▸ hx)
theorem reach (hE:E.Fine) {k:List SV → List Box → List HO → Prop} (hcl:ClosedS ops.toList (fun i=>listed.getD i false = true)) {m:Nat} {om:Oper} (hom:ops[m]? = some om)
  (hdeps:∀ o,ops[m]? = some o → ∀ e ∈ o.after.toList,Region.binds .any e = true → listed.getD e.on false = true) (hmu:listed.getD m false = false) (hin:∀ e,e < ops.size ∨ listed.getD e false = false):
  ∀ (p:Plan) (hd C1 Pq D:List Nat) (A:List Ahd) (frC:List SV) (H:List HO),planB F G ops.toList p C1 Pq hd = true → execsP E ops.toList p frC L H k → PB F G E ops listed HM C1 Pq D A frM frC L H → m ∉ C1 → m ∉ hd → Found F G E ops listed HM frM L k m om
 | .fin,hd,C1,Pq,D,A,frC,H,h,hex,inv,hm,hh=>by
  exfalso
  simp only [planB,Bool.and_eq_true,List.all_eq_true,List.mem_range,Array.length_toList,List.contains_eq_mem,decide_eq_true_eq] at h
  exact hm (h.2 m (Array.getElem?_eq_some_iff.1 hom).1)
 | .one y p,hd,C1,Pq,D,A,frC,H,h,hex,inv,hm,hh=>by
  have h0:=h
  simp only [planB,Bool.and_eq_true,Array.length_toList,List.contains_eq_mem,decide_eq_true_eq,Bool.not_eq_true',decide_eq_false_iff_not] at h
  obtain ⟨⟨⟨⟨⟨⟨hhd,hyl⟩,hyC⟩,hFy⟩,hGy⟩,hst⟩,hpl⟩:=h
  obtain rfl:hd = []:=by simpa using hhd
  have hml:m < ops.size:=(Array.getElem?_eq_some_iff.1 hom).1
  by_cases hmP:m ∈ Pq
  ·exact .inl ⟨_,C1,Pq,D,A,frC,H,h0,hex,inv,.inr hmP⟩
  obtain ⟨oy,hoy⟩:∃ oy,ops[y]? = some oy:=⟨ops[y],Array.getElem?_eq_getElem hyl⟩
  simp only [execsP,Array.getElem?_toList,hoy] at hex
  by_cases hya:∃ a ∈ A,a.i = y
  ·obtain ⟨a,ha,rfl⟩:=hya
   obtain ⟨A',frC',H',inv',hk⟩:=inv.take ha hst hoy hex
   have hne:m ≠ a.i:=fun e=>by
    have:=(inv.lst m hml).2 (.inr ⟨a,ha,e.symm⟩)
    rw [hmu] at this
    cases this
   exact reach hE hcl hom hdeps hmu hin p [] _ _ _ _ _ _ hpl hk inv' (by simp [hm,hne]) (by simp)
  ·by_cases hym:y = m
   ·subst hym
    rw [hom] at hoy
    cases hoy
    refine .inr ⟨p,C1,Pq,D,A,frC,H,_,inv,hm,hmP,hFy,⟨true,hex,fun h=>(by cases h)⟩,fun fr L' H'' hk=>⟨fun hG=>?_,hk⟩,?_,fun j hj=>?_⟩
    ·rw [hGy] at hG
     cases hG
    ·rwa [filter_ne hmP] at hpl
    ·obtain ⟨hjl,hjC,_⟩:=inv.pq j hj
     exact ((stepB_spec hst j hjl hjC fun e=>hmP (e ▸ hj)).1 hj).1.2
   ·have hyu:listed.getD y false = false:=by
     cases hb:listed.getD y false with
     | false=>rfl
     | true=>
      rcases (inv.lst y hyl).1 hb with h | h
      ·exact absurd h.1 hyC
      ·exact absurd h hya
    have hsp:=stepB_spec hst m hml hm (Ne.symm hym)
    by_cases hyP:y ∈ Pq
    ·exfalso
     rcases dep_listed hcl hml hdeps (hsp.2.1 hmP hyP) with h | h
     ·rw [hyu] at h; cases h
     ·exact hym h
    ·obtain ⟨o1,o2,h1,h2,hfree,_⟩:=pair_apart hcl (hsp.2.2 hmP hyP) hyu hml hdeps
     rw [hoy] at h1
     cases h1
     have hH:hF F y H = H:=by simp [hF,hFy]
     obtain ⟨frC',inv',hk⟩:=inv.putOff hE hoy hfree hyC hyP hst (K:=fun fr L H=>execsP E ops.toList p fr L H k) (by rw [hH]; exact hex)
     rw [hH] at hk
     rw [filter_ne hyP] at hpl
     exact reach hE hcl hom hdeps hmu hin p [] _ _ _ _ _ _ hpl hk inv' (by simp [hm,Ne.symm hym]) (by simp)
 | .kl y p,hd,C1,Pq,D,A,frC,H,h,hex,inv,hm,hh=>by
  have h0:=h
  simp only [planB,Bool.and_eq_true,Array.length_toList,List.contains_eq_mem,decide_eq_true_eq,Bool.not_eq_true',decide_eq_false_iff_not] at h
  obtain ⟨⟨⟨⟨⟨⟨hhd,hyl⟩,hyC⟩,hFy⟩,hyP⟩,hst⟩,hpl⟩:=h
  obtain rfl:hd = []:=by simpa using hhd
  have hml:m < ops.size:=(Array.getElem?_eq_some_iff.1 hom).1
  by_cases hmP:m ∈ Pq
  ·exact .inl ⟨_,C1,Pq,D,A,frC,H,h0,hex,inv,.inr hmP⟩
  obtain ⟨oy,hoy⟩:∃ oy,ops[y]? = some oy:=⟨ops[y],Array.getElem?_eq_getElem hyl⟩
  simp only [execsP,Array.getElem?_toList,hoy] at hex
  by_cases hym:y = m
  ·subst hym
   rw [hom] at hoy
   cases hoy
   refine .inr ⟨p,C1,Pq,D,A,frC,H,_,inv,hm,hmP,hFy,⟨true,hex,fun h=>(by cases h)⟩,fun fr L' H'' hk=>⟨fun _=>hk.1,hk.2⟩,hpl,fun j hj=>?_⟩
   obtain ⟨hjl,hjC,_⟩:=inv.pq j hj
   exact ((stepB_spec hst j hjl hjC fun e=>hmP (e ▸ hj)).1 hj).1.2
  ·have hyu:listed.getD y false = false:=by
    cases hb:listed.getD y false with
    | false=>rfl
    | true=>
     rcases (inv.lst y hyl).1 hb with h | ⟨a,ha,e⟩
     ·exact absurd h.1 hyC
     ·exact absurd (e ▸ inv.aq a ha) hyP
   have hsp:=stepB_spec hst m hml hm (Ne.symm hym)
   obtain ⟨o1,o2,h1,h2,hfree,_⟩:=pair_apart hcl (hsp.2.2 hmP hyP) hyu hml hdeps
   rw [hoy] at h1
   cases h1
   have hH:hF F y H = H:=by simp [hF,hFy]
   obtain ⟨frC',inv',hk⟩:=inv.putOff hE hoy hfree hyC hyP hst (by rw [hH]; exact hex)
   rw [hH] at hk
   exact reach hE hcl hom hdeps hmu hin p [] _ _ _ _ _ _ hpl hk.2 inv' (by simp [hm,Ne.symm hym]) (by simp)
 | .mu y p,hd,C1,Pq,D,A,frC,H,h,hex,inv,hm,hh=>by
  have h0:=h
  simp only [planB,Bool.and_eq_true,Array.length_toList,List.contains_eq_mem,decide_eq_true_eq,Bool.not_eq_true',decide_eq_false_iff_not] at h
  obtain ⟨⟨⟨⟨⟨⟨⟨⟨hhd,hyl⟩,hyC⟩,hFy⟩,hyP⟩,hGy⟩,hnf⟩,hst⟩,hpl⟩:=h
  obtain rfl:hd = []:=by simpa using hhd
  have hml:m < ops.size:=(Array.getElem?_eq_some_iff.1 hom).1
  by_cases hmP:m ∈ Pq
  ·exact .inl ⟨_,C1,Pq,D,A,frC,H,h0,hex,inv,.inr hmP⟩
  obtain ⟨oy,hoy⟩:∃ oy,ops[y]? = some oy:=⟨ops[y],Array.getElem?_eq_getElem hyl⟩
  simp only [execsP,Array.getElem?_toList,hoy] at hex hnf
  by_cases hym:y = m
  ·subst hym
   rw [hom] at hoy
   cases hoy
   refine .inr ⟨p,C1,Pq,D,A,frC,H,_,inv,hm,hmP,hFy,⟨false,hex,fun _=>hGy⟩,fun fr L' H'' hk=>⟨fun _=>hk.1,hk.2⟩,hpl,fun j hj=>?_⟩
   obtain ⟨hjl,hjC,_⟩:=inv.pq j hj
   exact ((stepB_spec hst j hjl hjC fun e=>hmP (e ▸ hj)).1 hj).1.2
  ·exfalso
   have hyu:listed.getD y false = false:=by
    cases hb:listed.getD y false with
    | false=>rfl
    | true=>
     rcases (inv.lst y hyl).1 hb with h | ⟨a,ha,e⟩
     ·exact absurd h.1 hyC
     ·exact absurd (e ▸ inv.aq a ha) hyP
   have hsp:=stepB_spec hst m hml hm (Ne.symm hym)
   obtain ⟨o1,o2,h1,h2,hfree,_⟩:=pair_apart hcl (hsp.2.2 hmP hyP) hyu hml hdeps
   rw [hoy] at h1
   cases h1
   rw [hfree] at hnf
   simp at hnf
 | .ld y p,hd,C1,Pq,D,A,frC,H,h,hex,inv,hm,hh=>by
  have h0:=h
  simp only [planB,Bool.and_eq_true,Array.length_toList,List.contains_eq_mem,decide_eq_true_eq,Bool.not_eq_true',decide_eq_false_iff_not] at h
  obtain ⟨⟨⟨⟨⟨⟨⟨hhd,hyl⟩,hyC⟩,hFy⟩,hyP⟩,hld⟩,hst⟩,hpl⟩:=h
  obtain rfl:hd = []:=by simpa using hhd
  by_cases hmP:m ∈ Pq
  ·exact .inl ⟨_,C1,Pq,D,A,frC,H,h0,hex,inv,.inr hmP⟩
  obtain ⟨oy,hoy⟩:∃ oy,ops[y]? = some oy:=⟨ops[y],Array.getElem?_eq_getElem hyl⟩
  simp only [execsP,Array.getElem?_toList,hoy] at hex hld
  have hfree:isFree oy.op = true:=by
   cases hop:oy.op <;> rw [hop] at hld <;> simp [isLoad] at hld
   rfl
  have hH:hF F y H = []:=by simp [hF,hFy]
  obtain ⟨frC',inv',hk⟩:=inv.putOff hE hoy hfree hyC hyP hst (K:=fun fr _ _=>execsP E ops.toList p fr L H k) (by rw [hH]; exact hex)
  by_cases hym:y = m
  ·subst hym
   exact .inl ⟨p,_,_,_,_,_,_,hpl,hk,inv',.inl (by simp)⟩
  ·exact reach hE hcl hom hdeps hmu hin p [] _ _ _ _ _ _ hpl hk inv' (by simp [hm,Ne.symm hym]) (by simp)
 | .pre y p,hd,C1,Pq,D,A,frC,H,h,hex,inv,hm,hh=>by
  simp only [planB,Bool.and_eq_true,Array.length_toList,List.contains_eq_mem,decide_eq_true_eq,Bool.not_eq_true',decide_eq_false_iff_not,List.all_eq_true] at h
  obtain ⟨⟨⟨⟨⟨⟨hhd,hyl⟩,hyC⟩,hyP⟩,hnb⟩,hap⟩,hpl⟩:=h
  obtain ⟨oy,hoy⟩:∃ oy,ops[y]? = some oy:=⟨ops[y],Array.getElem?_eq_getElem hyl⟩
  simp only [execsP,Array.getElem?_toList,hoy] at hex
  unfold newB at hnb
  simp only [Array.getElem?_toList,hoy,Bool.and_eq_true,Option.isNone_iff_eq_none] at hnb
  obtain ⟨⟨hnk,hg⟩,_⟩:=hnb
  have hex1:exec1 E true frC L H oy.dst oy.op fun _ L' _=>L' = L:=by
   have:=hex.1
   simp only [execs,hg] at this
   exact this
  obtain ⟨v,f,hsp⟩:=new_spec hnk hex1
  refine reach hE hcl hom hdeps hmu hin p [] C1 (Pq ++ [y]) D A frC H hpl hex.2 ⟨inv.rep,inv.wfC,inv.sub,inv.lt,inv.lst,inv.prs,inv.out,fun i hi=>?_,fun i hi j hj hne=>?_,fun a ha=>List.mem_append_left _ (inv.aq a ha),inv.nd,inv.hm⟩ hm (by simp)
  ·rcases List.mem_append.1 hi with hi | hi
   ·exact inv.pq i hi
   ·rw [List.mem_singleton] at hi
    subst hi
    exact ⟨hyl,hyC,oy,frC,v,f,hoy,hg,hnk,hsp,Agr.refl _ _,fun a ha e=>absurd (e ▸ inv.aq a ha) hyP⟩
  ·have symm:∀ i ∈ Pq,apB ops.toList y i = true:=fun i hi=>by
    obtain ⟨a,b,ha,hb,hab⟩:=apB_spec (hap i hi)
    unfold apB
    rw [Array.getElem?_toList,Array.getElem?_toList,ha,hb]
    simpa using apart_symm hab
   rcases List.mem_append.1 hi with hi1 | hi1
   ·rcases List.mem_append.1 hj with hj1 | hj1
    ·exact inv.pp i hi1 j hj1 hne
    ·have e:j = y:=by simpa using hj1
     rw [e]
     exact hap i hi1
   ·have e:i = y:=by simpa using hi1
    rw [e]
    rcases List.mem_append.1 hj with hj1 | hj1
    ·exact symm j hj1
    ·have e2:j = y:=by simpa using hj1
     exact absurd (e.trans e2.symm) hne
 | .alt y p q,hd,C1,Pq,D,A,frC,H,h,hex,inv,hm,hh=>by
  simp only [planB,Bool.and_eq_true,decide_eq_true_eq,Array.length_toList,Bool.not_eq_true',List.isEmpty_iff] at h
  obtain ⟨⟨⟨⟨⟨⟨hyl,hyC⟩,rfl⟩,hFy⟩,hGy⟩,hpl⟩,hql⟩:=h
  obtain ⟨oy,hoy⟩:∃ oy,ops[y]? = some oy:=⟨ops[y],Array.getElem?_eq_getElem hyl⟩
  simp only [execsP,Array.getElem?_toList,hoy] at hex
  by_cases hym:y = m
  ·subst hym
   rw [hom] at hoy
   cases hoy
   refine .inr ⟨p,C1,[],D,A,frC,H,_,inv,hm,by simp,hFy,⟨true,hex.1,fun h=>(by cases h)⟩,fun fr L' H'' hk=>⟨fun hG=>?_,hk⟩,hpl,fun j hj=>(by cases hj)⟩
   rw [hGy] at hG
   cases hG
  ·exact reach hE hcl hom hdeps hmu hin q (y :: hd) C1 [] D A frC H hql hex.2 inv hm (by simp [hh,Ne.symm hym])
 | .am y p q,hd,C1,Pq,D,A,frC,H,h,hex,inv,hm,hh=>by
  simp only [planB,Bool.and_eq_true,decide_eq_true_eq,Array.length_toList,Bool.not_eq_true',List.isEmpty_iff] at h
  obtain ⟨⟨⟨⟨⟨⟨hyl,hyC⟩,rfl⟩,hFy⟩,hGy⟩,hpl⟩,hql⟩:=h
  obtain ⟨oy,hoy⟩:∃ oy,ops[y]? = some oy:=⟨ops[y],Array.getElem?_eq_getElem hyl⟩
  simp only [execsP,Array.getElem?_toList,hoy] at hex
  by_cases hym:y = m
  ·subst hym
   rw [hom] at hoy
   cases hoy
   refine .inr ⟨p,C1,[],D,A,frC,H,_,inv,hm,by simp,hFy,⟨false,hex.1,fun _=>hGy⟩,fun fr L' H'' hk=>⟨fun _=>hk.1,hk.2⟩,hpl,fun j hj=>(by cases hj)⟩
  ·exact reach hE hcl hom hdeps hmu hin q (y :: hd) C1 [] D A frC H hql hex.2 inv hm (by simp [hh,Ne.symm hym])
 | .no,hd,C1,Pq,D,A,frC,H,h,hex,inv,hm,hh=>by
  exfalso
  have hml:m < ops.size:=(Array.getElem?_eq_some_iff.1 hom).1
  simp only [planB,Bool.and_eq_true,List.all_eq_true,List.mem_range,Array.length_toList,List.isEmpty_iff] at h
  obtain ⟨⟨_,rfl⟩,h⟩:=h
  have h2:=h m hml
  simp only [Array.getElem?_toList,hom,Bool.or_eq_true,List.contains_eq_mem,decide_eq_true_eq,hm,hh,false_or,Bool.not_eq_true'] at h2
  have h3:(om.after.toList.all fun e=>!Region.binds .any e || decide (e.on ∈ C1)) = true:=by
   rw [List.all_eq_true]
   intro e he
   cases hb:Region.binds .any e with
   | false=>rfl
   | true=>
    have:=hdeps om hom e he hb
    rcases hin e.on with x | x
    ·rcases (inv.lst _ x).1 this with y | ⟨a,ha,_⟩
     ·simp [y.1]
     ·exact absurd (inv.aq a ha) (by simp)
    ·rw [x] at this; cases this
  rw [h3] at h2
  cases h2
end
theorem plan_sound {F G:Nat → Bool} {E:Env} (hE:E.Fine) (hD:E.DetOk) {ops:Array Oper} (hedgeB:edgesB ops.toList = true) {k:List SV → List Box → List HO → Prop} {ks:List (Nat × Obj)} {rd:Option Nat} {df:List Deferred} {Q:Exit → Act → World → Prop}
  {bs0:Nat → Nat} {L0:List Box} {H0:List HO} {w00:World}
  (hQ:∀ fr' bs' L' H' w',k fr' L' H' → WfFr L'.length fr' → Come bs0 bs' L0 L' H0 H' w00 w' → Rel E.w0 bs' ks L' H' w' → Q .normal { tmps:=rf bs' fr',defers:=df } w'):
  ∀ (fuel:Nat) (listed:Array Bool) (p:Plan) (C1 Pq D:List Nat) (A:List Ahd) (frM frC:List SV) (L:List Box) (H HM:List HO) (bs:Nat → Nat) (w:World),cnt ops.size (fun i=>!listed.getD i false) ≤ fuel → listed.size = ops.size → ClosedS ops.toList (fun i=>listed.getD i false = true) →
   planB F G ops.toList p C1 Pq [] = true → execsP E ops.toList p frC L H k → PB F G E ops listed HM C1 Pq D A frM frC L H → Rel E.w0 bs ks L HM w → WfFr L.length frM → Come bs0 bs L0 L H0 HM w00 w →
   wpAnyIn (fence rd) 0 E.P .any ops Q fuel listed { tmps:=rf bs frM,defers:=df } w:=by
 have hedge:∀ i o,ops.toList[i]? = some o → ∀ e ∈ o.after.toList,Region.binds .any e = true → e.on < i:=fun i o ho e he hb=>by
  unfold edgesB at hedgeB
  rw [List.all_eq_true] at hedgeB
  have:=hedgeB (o,i) (List.mem_zipIdx_iff_getElem?.2 ho)
  simp only [List.all_eq_true,Bool.or_eq_true,Bool.not_eq_true',decide_eq_true_eq] at this
  rcases this e he with h | h
  ·rw [hb] at h; cases h
  ·exact h
 have done:∀ (p:Plan) (listed:Array Bool) (C1 Pq D:List Nat) (A:List Ahd) (frM frC:List SV) (L:List Box) (H HM:List HO) (bs:Nat → Nat) (w:World),(∀ i,i < ops.size → listed.getD i false = true) →
   planB F G ops.toList p C1 Pq [] = true → execsP E ops.toList p frC L H k → PB F G E ops listed HM C1 Pq D A frM frC L H → Rel E.w0 bs ks L HM w → Come bs0 bs L0 L H0 HM w00 w → Q .normal { tmps:=rf bs frM,defers:=df } w:=by
  intro p
  have gone:∀ (listed:Array Bool) (C1 Pq D:List Nat) (A:List Ahd) (frM frC:List SV) (L:List Box) (H HM:List HO) (y:Nat),(∀ i,i < ops.size → listed.getD i false = true) → PB F G E ops listed HM C1 Pq D A frM frC L H → y < ops.size → y ∉ C1 → ∃ a ∈ A,a.i = y:=by
   intro listed C1 Pq D A frM frC L H HM y hall inv hy hyC
   rcases (inv.lst y hy).1 (hall y hy) with h | h
   ·exact absurd h.1 hyC
   ·exact h
  induction p with
  | fin=>
   intro listed C1 Pq D A frM frC L H HM bs w hall h hex inv rel hc
   simp only [planB,Bool.and_eq_true,List.isEmpty_iff] at h
   have hPq:Pq = []:=h.1.2
   have hA:A = []:=List.eq_nil_iff_forall_not_mem.2 fun a ha=>by have:=inv.aq a ha; rw [hPq] at this; cases this
   have hDn:D = []:=by
    rcases D with _ | ⟨d,D⟩
    ·rfl
    ·have hdl:=inv.lt d (inv.sub d List.mem_cons_self)
     rcases (inv.lst d hdl).1 (hall d hdl) with x | ⟨a,ha,_⟩
     ·exact absurd List.mem_cons_self x.2
     ·rw [hA] at ha; cases ha
   subst hDn hA
   have hr:=inv.rep
   simp only [Replay,putA,List.foldl_nil] at hr
   simp only [execsP] at hex
   have hm:=inv.hm
   simp only [List.map_nil,List.nil_append] at hm
   have hi:HImp E.w0 HM H:=HImp.perm hm.symm
   rw [hr.rf bs]
   exact hQ frC bs L H w hex inv.wfC (hc.imp rel.hp hi) (rel.imp hi)
  | one y p ih=>
   intro listed C1 Pq D A frM frC L H HM bs w hall h hex inv rel hc
   simp only [planB,Bool.and_eq_true,Array.length_toList,List.contains_eq_mem,decide_eq_true_eq,Bool.not_eq_true',decide_eq_false_iff_not] at h
   obtain ⟨⟨⟨⟨⟨⟨_,hyl⟩,hyC⟩,hFy⟩,hGy⟩,hst⟩,hpl⟩:=h
   obtain ⟨oy,hoy⟩:∃ oy,ops[y]? = some oy:=⟨ops[y],Array.getElem?_eq_getElem hyl⟩
   simp only [execsP,Array.getElem?_toList,hoy] at hex
   obtain ⟨a,ha,rfl⟩:=gone listed C1 Pq D A frM frC L H HM y hall inv hyl hyC
   obtain ⟨A',frC',H',inv',hk⟩:=inv.take ha hst hoy hex
   exact ih listed _ _ _ _ _ _ _ _ _ bs w hall hpl hk inv' rel hc
  | kl y p ih=>
   intro listed C1 Pq D A frM frC L H HM bs w hall h hex inv rel hc
   exfalso
   simp only [planB,Bool.and_eq_true,Array.length_toList,List.contains_eq_mem,decide_eq_true_eq,Bool.not_eq_true',decide_eq_false_iff_not] at h
   obtain ⟨a,ha,rfl⟩:=gone listed C1 Pq D A frM frC L H HM y hall inv h.1.1.1.1.1.2 h.1.1.1.1.2
   exact h.1.1.2 (inv.aq a ha)
  | mu y p ih=>
   intro listed C1 Pq D A frM frC L H HM bs w hall h hex inv rel hc
   exfalso
   simp only [planB,Bool.and_eq_true,Array.length_toList,List.contains_eq_mem,decide_eq_true_eq,Bool.not_eq_true',decide_eq_false_iff_not] at h
   obtain ⟨a,ha,rfl⟩:=gone listed C1 Pq D A frM frC L H HM y hall inv h.1.1.1.1.1.1.1.2 h.1.1.1.1.1.1.2
   exact h.1.1.1.1.2 (inv.aq a ha)
  | ld y p ih=>
   intro listed C1 Pq D A frM frC L H HM bs w hall h hex inv rel hc
   exfalso
   simp only [planB,Bool.and_eq_true,Array.length_toList,List.contains_eq_mem,decide_eq_true_eq,Bool.not_eq_true',decide_eq_false_iff_not] at h
   obtain ⟨a,ha,rfl⟩:=gone listed C1 Pq D A frM frC L H HM y hall inv h.1.1.1.1.1.1.2 h.1.1.1.1.1.2
   exact h.1.1.1.2 (inv.aq a ha)
  | pre y p ih=>
   intro listed C1 Pq D A frM frC L H HM bs w hall h hex inv rel hc
   exfalso
   simp only [planB,Bool.and_eq_true,Array.length_toList,List.contains_eq_mem,decide_eq_true_eq,Bool.not_eq_true',decide_eq_false_iff_not] at h
   obtain ⟨a,ha,rfl⟩:=gone listed C1 Pq D A frM frC L H HM y hall inv h.1.1.1.1.1.2 h.1.1.1.1.2
   exact h.1.1.1.2 (inv.aq a ha)
  | alt y p q ih1 ih2=>
   intro listed C1 Pq D A frM frC L H HM bs w hall h hex inv rel hc
   exfalso
   simp only [planB,Bool.and_eq_true,decide_eq_true_eq,Array.length_toList,Bool.not_eq_true',List.isEmpty_iff,List.contains_eq_mem,decide_eq_false_iff_not] at h
   obtain ⟨a,ha,_⟩:=gone listed C1 Pq D A frM frC L H HM y hall inv h.1.1.1.1.1.1 h.1.1.1.1.1.2
   have:=inv.aq a ha
   rw [h.1.1.1.1.2] at this
   cases this
  | am y p q ih1 ih2=>
   intro listed C1 Pq D A frM frC L H HM bs w hall h hex inv rel hc
   exfalso
   simp only [planB,Bool.and_eq_true,decide_eq_true_eq,Array.length_toList,Bool.not_eq_true',List.isEmpty_iff,List.contains_eq_mem,decide_eq_false_iff_not] at h
   obtain ⟨a,ha,_⟩:=gone listed C1 Pq D A frM frC L H HM y hall inv h.1.1.1.1.1.1 h.1.1.1.1.1.2
   have:=inv.aq a ha
   rw [h.1.1.1.1.2] at this
   cases this
  | no=>
   intro listed C1 Pq D A frM frC L H HM bs w hall h hex inv rel hc
   simp [planB] at h
 intro fuel
 induction fuel with
 | zero=>
  intro listed p C1 Pq D A frM frC L H HM bs w hn hsz hcl hpl hex inv rel wfR hc
  have hall:∀ i,i < ops.size → listed.getD i false = true:=fun i hi=>by
   have:=cnt_zero (f:=fun i=>!listed.getD i false) (n:=ops.size) (by omega) i hi
   simpa using this
  refine ⟨?_,done p listed C1 Pq D A frM frC L H HM bs w hall hpl hex inv rel hc⟩
  rw [List.eq_nil_iff_forall_not_mem]
  intro i hi
  obtain ⟨hun,oi,hoi,_⟩:=mem_ready.1 hi
  have hlt':i < ops.size:=(Array.getElem?_eq_some_iff.1 hoi).1
  have hu:=gd_both hun
  rw [hall i hlt'] at hu
  cases hu
 | succ fuel ih=>
  intro listed p C1 Pq D A frM frC L H HM bs w hn hsz hcl hpl hex inv rel wfR hc
  refine ⟨fun hready=>?_,fun i hi=>?_⟩
  ·refine done p listed C1 Pq D A frM frC L H HM bs w (fun i hi=>?_) hpl hex inv rel hc
   cases hu:listed.getD i false with
   | true=>rfl
   | false=>
    exfalso
    have least:∀ n i,i ≤ n → i < ops.size → listed.getD i false = false → ∃ j,j < ops.size ∧ listed.getD j false = false ∧ ∀ m,m < j → listed.getD m false = true:=by
     intro n
     induction n with
     | zero=>
      intro i hi hs hu
      exact ⟨i,hs,hu,fun m hm=>by omega⟩
     | succ n ih'=>
      intro i hi hs hu
      by_cases hsm:∃ m,m < i ∧ listed.getD m false = false
      ·obtain ⟨m,hm,hmu⟩:=hsm
       exact ih' m (by omega) (by omega) hmu
      ·refine ⟨i,hs,hu,fun m hm=>?_⟩
       cases hb:listed.getD m false with
       | true=>rfl
       | false=>exact absurd ⟨m,hm,hb⟩ hsm
    obtain ⟨j,hj,hju,hjm⟩:=least i i (Nat.le_refl _) hi hu
    have:j ∈ Region.ready .any ops listed:=by
     refine mem_ready.2 ⟨gd_in (by rw [hsz]; exact hj) hju,ops[j],Array.getElem?_eq_getElem hj,fun e he hb=>?_⟩
     exact hjm _ (hedge j ops[j] (by simp [hj]) e (Array.mem_toList_iff.2 he) hb)
    rw [hready] at this
    cases this
  ·obtain ⟨hun,oi,hoi,hdeps⟩:=mem_ready.1 hi
   have hil:i < ops.size:=(Array.getElem?_eq_some_iff.1 hoi).1
   have hu:=gd_both hun
   have hdeps':∀ o,ops[i]? = some o → ∀ e ∈ o.after.toList,Region.binds .any e = true → listed.getD e.on false = true:=by
    intro o ho e he hb
    rw [hoi] at ho
    cases ho
    exact hdeps e (Array.mem_toList_iff.1 he) hb
   have closed':ClosedS ops.toList (fun x=>(listed.setIfInBounds i true).getD x false = true):=by
    intro j o ho hj e he hb
    rw [getD_set (by rw [hsz]; exact hil)] at hj ⊢
    by_cases hji:j = i
    ·subst hji
     have:=hdeps' o (by simpa using ho) e he hb
     simp [this]
    ·simp only [hji,if_false] at hj
     have:=hcl j o ho hj e he hb
     simp [this]
   have hcnt:cnt ops.size (fun x=>!(listed.setIfInBounds i true).getD x false) ≤ fuel:=by
    have:=cnt_less (f:=fun x=>!listed.getD x false) (g:=fun x=>!(listed.setIfInBounds i true).getD x false) (i:=i) (n:=ops.size) hil (by simp [hu]) (by show (!(listed.setIfInBounds i true).getD i false) = false; rw [getD_set (by rw [hsz]; exact hil)]; simp) (fun j hj=>by show (!listed.getD j false) = (!(listed.setIfInBounds i true).getD j false); rw [getD_set (by rw [hsz]; exact hil)]; simp [hj])
    omega
   have hsz':(listed.setIfInBounds i true).size = ops.size:=by simp [hsz]
   have hset:∀ x,(listed.setIfInBounds i true).getD x false = if x = i then true else listed.getD x false:=fun x=>getD_set (by rw [hsz]; exact hil)
   -- one that was put off
   have off:∀ (p:Plan) (C1 Pq D:List Nat) (A:List Ahd) (frC:List SV) (H:List HO),planB F G ops.toList p C1 Pq [] = true → execsP E ops.toList p frC L H k → PB F G E ops listed HM C1 Pq D A frM frC L H → i ∈ D →
     wpOpIn (fence rd) 0 E.P ops Q i (wpAnyIn (fence rd) 0 E.P .any ops Q fuel (listed.setIfInBounds i true)) { tmps:=rf bs frM,defers:=df } w:=by
    intro p C1 Pq D A frC H hpl hex inv hiD
    have hnl:∀ d,d ∈ D → listed.getD d false = false:=by
     intro d hd
     have hdl:d < ops.size:=inv.lt d (inv.sub d hd)
     cases hb:listed.getD d false with
     | false=>rfl
     | true=>
      rcases (inv.lst d hdl).1 hb with x | ⟨a,ha,e⟩
      ·exact absurd hd x.2
      ·exact absurd (inv.sub d hd) (e ▸ (inv.pq _ (inv.aq a ha)).2.1)
    obtain ⟨D1,D2,rfl⟩:=List.append_of_mem hiD
    have hpD:=inv.prs
    have hap:ApartD ops D1 oi:=by
     intro d hd o ho
     have hp:=pairsB_append hpD d hd i List.mem_cons_self
     obtain ⟨o1,o2,h1,h2,_,h4,_⟩:=pair_apart hcl hp (hnl d (by simp [hd])) hil hdeps'
     rw [ho] at h1; cases h1
     rw [hoi] at h2; cases h2
     exact h4
    obtain ⟨s,hv,hr⟩:=Replay.bubble hoi inv.rep hap
    have hnd:∀ x ∈ D1 ++ D2,x ≠ i:=by
     rintro x hx rfl
     rcases List.mem_append.1 hx with hx | hx
     ·have hp:=pairsB_append hpD x hx x List.mem_cons_self
      simp [pairB] at hp
     ·have hp:=pairsB_append (a:=D1 ++ [x]) (b:=D2) (by simpa using hpD) x (by simp) x hx
      simp [pairB] at hp
    have hsubD:(D1 ++ D2).Sublist (D1 ++ i :: D2):=List.Sublist.append (List.Sublist.refl D1) (List.sublist_cons_self i D2)
    have hnew:PB F G E ops (listed.setIfInBounds i true) HM C1 Pq (D1 ++ D2) A (put frM oi.dst s) frC L H:=by
     refine ⟨hr,inv.wfC,fun d hd=>inv.sub d (hsubD.subset hd),inv.lt,fun x hx=>?_,pairsB_sub hsubD hpD,fun d hd=>inv.out d (hsubD.subset hd),inv.pq,inv.pp,inv.aq,inv.nd,inv.hm⟩
     rw [hset]
     by_cases hxi:x = i
     ·subst hxi
      simp only [if_true,true_iff]
      exact .inl ⟨inv.sub x hiD,fun h=>hnd x h rfl⟩
     ·simp only [hxi,if_false]
      rw [inv.lst x hx]
      simp [hxi]
    have hHM:∀ x ∈ hF F i H,x ∈ HM:=fun x hx=>inv.hm.subset (List.mem_append_right _ (hF_sub x hx))
    rcases hv.2 with ⟨hw,hfree,hg⟩ | ⟨hw,rfl⟩
    ·unfold wpOpIn
     simp only [hoi,wantedS_eq,hw,if_true]
     unfold Oper.wpIn
     refine ⟨fun _ _=>trivial,?_⟩
     have hnd:∀ c,oi.op ≠ .defer c:=by
      intro c e
      have:=hg bs ks L HM w (fun x=>(op1 frM x).real bs) oi rel (fun _=>⟨List.prefix_refl _,hHM⟩) (fun _ _=>rfl) rfl
      simp [execOp,e] at this
      cases hres:(resolve (fun x=>(op1 frM x).real bs) c oi.type).run E.P w <;> simp [hres,Result.andThen] at this
     rw [Oper.semAt_eq _ _ _ hnd]
     rw [hg bs ks L HM w _ oi rel (fun _=>⟨List.prefix_refl _,hHM⟩) (fun x _=>op1_real bs frM df x) rfl,Oper.uponIn_value,put_real]
     exact ih _ _ _ _ _ _ _ _ _ _ _ _ _ hcnt hsz' closed' hpl hex hnew rel (wfR.put hv.1 _) hc
    ·exact wp_skip_op hoi hw (ih _ _ _ _ _ _ _ _ _ _ _ _ _ hcnt hsz' closed' hpl hex hnew rel (wfR.put hv.1 _) hc)
   by_cases hiD:i ∈ D
   ·exact off p C1 Pq D A frC H hpl hex inv hiD
   by_cases hiC:i ∈ C1
   ·exfalso
    have:=(inv.lst i hil).2 (.inl ⟨hiC,hiD⟩)
    rw [hu] at this
    cases this
   have hap:∀ {C1 Pq D:List Nat} {A:List Ahd} {frC:List SV} {H:List HO},PB F G E ops listed HM C1 Pq D A frM frC L H → i ∉ C1 → ApartD ops D oi ∧ ∀ d ∈ D,∀ o,ops[d]? = some o → isLoad o.op = true → (storeLike oi.op || G i) = true → F d = true ∧ G i = true:=by
    intro C1 Pq D A frC H inv hiC
    have key:∀ d ∈ D,∀ o,ops[d]? = some o → Oper.apart ops o oi = true ∧ ((storeLike oi.op || G i) = true → isLoad o.op = true → F d = true ∧ G i = true):=by
     intro d hd o ho
     have hdl:d < ops.size:=inv.lt d (inv.sub d hd)
     have hdu:listed.getD d false = false:=by
      cases hb:listed.getD d false with
      | false=>rfl
      | true=>
       rcases (inv.lst d hdl).1 hb with x | ⟨a,ha,e⟩
       ·exact absurd hd x.2
       ·exact absurd (inv.sub d hd) (e ▸ (inv.pq _ (inv.aq a ha)).2.1)
     rcases inv.out d hd i hil hiC with hp | ⟨⟨hn,hp⟩,hGi⟩
     ·obtain ⟨o1,o2,h1,h2,_,h4,h5⟩:=pair_apart hcl hp hdu hil hdeps'
      rw [ho] at h1; cases h1
      rw [hoi] at h2; cases h2
      exact ⟨h4,h5⟩
     ·refine ⟨apart_symm (apB_of hp hoi ho),fun hs=>?_⟩
      have:=newK_store (newKB_of hn hoi)
      rw [this,hGi] at hs
      cases hs
    exact ⟨fun d hd o ho=>(key d hd o ho).1,fun d hd o ho hl hs=>(key d hd o ho).2 hs hl⟩
   have hfound:=reach hE hcl hoi hdeps' hu (fun e=>by
    by_cases he:e < ops.size
    ·exact .inl he
    ·exact .inr (by simp [hsz,he])) p [] C1 Pq D A frC H hpl hex inv hiC (by simp)
   rcases hfound with ⟨p',C1',Pq',D',A',frC',H',hpl',hex',inv',hmem⟩ | ⟨p',C1',Pq',D',A',frC',H',K,inv',hiC',hiP',hFi,⟨dr,hex',hdr⟩,hK,hpl',hPap⟩
   ·by_cases hiD':i ∈ D'
    ·exact off p' C1' Pq' D' A' frC' H' hpl' hex' inv' hiD'
    ·-- new memory,made ahead
     have hiP:i ∈ Pq':=hmem.resolve_left hiD'
     obtain ⟨_,hiC',o,fr0,v,f,ho,hg,hnk,hsp,hag,_⟩:=inv'.pq i hiP
     rw [hoi] at ho
     cases ho
     obtain ⟨hapD,hld⟩:=hap inv' hiC'
     have hlook:=Replay.at inv'.rep hapD
     have hnA:∀ a ∈ A',a.i ≠ i:=fun a ha e=>by
      have:=(inv'.lst i hil).2 (.inr ⟨a,ha,e⟩)
      rw [hu] at this
      cases this
     have hAat:∀ t ∈ oi.looksAt ops,∀ bs,(fget (putA A' frC') t).real bs = (fget frC' t).real bs:=fun t ht bs=>putA_at A' frC' t (fun a ha e=>by
      obtain ⟨oa,hoa,hd⟩:=inv'.adst ha
      exact (Oper.apart_spec (apB_of (inv'.pp _ (inv'.aq a ha) _ hiP (hnA a ha)) hoa hoi)).1 t (hd ▸ e) ht) bs
     have hagM:Agr oi.op fr0 frM:=hag.trans fun x hx bs=>op1_same (ops:=ops) (o:=oi) (fun t ht bs=>((hlook t ht bs).trans (hAat t ht bs)).symm) hx bs
     have hex1:exec1 E true frM L HM oi.dst oi.op fun s L' H'=>∃ b,s = .v (v b) ∧ L' = L ∧ H' = f b :: HM:=hsp.run _ _ _ _ hagM fun b=>⟨b,rfl,rfl,rfl⟩
     refine wp_op hE hD hoi hex1 (by simp [wantedS,hg]) rel wfR wfR (fun _ _=>rfl) ?_
     rintro s bs' L' H'' w' ⟨b,rfl,rfl,rfl⟩ hwf hx
     refine ih _ p' C1' Pq' D' (A' ++ [⟨i,oi.dst,v b,f b⟩]) _ frC' _ H' _ _ _ hcnt hsz' closed' hpl' hex' ⟨?_,inv'.wfC,inv'.sub,inv'.lt,fun x hx=>?_,inv'.prs,inv'.out,fun j hj=>?_,inv'.pp,fun a ha=>?_,?_,?_⟩ hx.rel ((wfR.le hx.le).put hwf _) (hc.trans hx.toCome)
     ·have:=Replay.put (s:=.v (v b)) inv'.rep hapD
      unfold putA at this ⊢
      rw [List.foldl_append,List.foldl_cons,List.foldl_nil]
      exact this
     ·rw [hset]
      by_cases hxi:x = i
      ·subst hxi
       simp
      ·simp only [hxi,if_false]
       rw [inv'.lst x hx]
       constructor
       ·rintro (h | ⟨a,ha,e⟩)
        ·exact .inl h
        ·exact .inr ⟨a,List.mem_append_left _ ha,e⟩
       ·rintro (h | ⟨a,ha,e⟩)
        ·exact .inl h
        ·rcases List.mem_append.1 ha with h | h
         ·exact .inr ⟨a,h,e⟩
         ·rw [List.mem_singleton] at h
          subst h
          exact absurd e.symm hxi
     ·obtain ⟨h1,h2,oj,fr1,v1,f1,h3,h4,h5,h6,h7,h8⟩:=inv'.pq j hj
      by_cases hji:j = i
      ·subst hji
       rw [hoi] at h3
       cases h3
       refine ⟨h1,h2,oi,fr0,v,f,hoi,hg,hnk,hsp,hag,fun a ha e=>?_⟩
       rcases List.mem_append.1 ha with h | h
       ·exact absurd e (hnA a h)
       ·rw [List.mem_singleton] at h
        subst h
        exact ⟨b,rfl,rfl,rfl⟩
      ·refine ⟨h1,h2,oj,fr1,v1,f1,h3,h4,h5,h6,h7,fun a ha e=>?_⟩
       rcases List.mem_append.1 ha with h | h
       ·exact h8 a h e
       ·rw [List.mem_singleton] at h
        subst h
        exact absurd e.symm hji
     ·rcases List.mem_append.1 ha with h | h
      ·exact inv'.aq a h
      ·rw [List.mem_singleton] at h
       subst h
       exact hiP
     ·rw [List.map_append,List.nodup_append]
      refine ⟨inv'.nd,by simp,fun x hx y hy=>?_⟩
      simp only [List.map_cons,List.map_nil,List.mem_singleton] at hy
      obtain ⟨a,ha,rfl⟩:=List.mem_map.1 hx
      rw [hy]
      exact hnA a ha
     ·rw [List.map_append,List.append_assoc,List.map_cons,List.map_nil]
      exact List.perm_middle.trans (inv'.hm.cons _)
   ·-- one that the walk has come to
    obtain ⟨hapD,hld⟩:=hap inv' hiC'
    obtain ⟨fr1,he1,hf1,hex'⟩:=execs_cons hex'
    have hAap:∀ a ∈ A',∃ oa,ops[a.i]? = some oa ∧ a.d = oa.dst ∧ oa.apart ops oi = true:=fun a ha=>by
     obtain ⟨oa,hoa,hd⟩:=inv'.adst ha
     exact ⟨oa,hoa,hd,apB_of (hPap _ (inv'.aq a ha)) hoa hoi⟩
    have hlook:∀ t ∈ oi.looksAt ops,∀ bs,(fget frM t).real bs = (fget fr1 t).real bs:=fun t ht bs=>by
     rw [Replay.at inv'.rep hapD t ht bs,putA_at A' frC' t (fun a ha e=>by
      obtain ⟨oa,_,hd,h⟩:=hAap a ha
      exact (Oper.apart_spec h).1 t (hd ▸ e) ht) bs]
     exact (he1.2 t bs).symm
    have hws:wantedS ops.toList frM oi = wantedS ops.toList frC' oi:=by
     rw [wantedS_same hlook,← wantedS_eq (fun _=>0),← wantedS_eq (fun _=>0),he1.rf]
    have hi1:HImp E.w0 HM (A'.map (·.h) ++ H'):=HImp.perm inv'.hm.symm
    have rel1:=rel.imp hi1
    have relH:Rel E.w0 bs ks L H' w:=rel1.imp (HImp.sub (List.sublist_append_right _ _))
    have hc1:=hc.imp rel.hp hi1
    have hiA:∀ a ∈ A',a.i ≠ i:=fun a ha e=>hiP' (e ▸ inv'.aq a ha)
    have hiD':i ∉ D':=fun h=>hiC' (inv'.sub i h)
    have newInv:∀ s L' H'',s.wf L'.length → L.length ≤ L'.length → ((storeLike oi.op || G i) = false → L <+: L' ∧ ∀ x ∈ H',x ∈ H'') → (G i = true → L' = L) →
      PB F G E ops (listed.setIfInBounds i true) (A'.map (·.h) ++ H'') (C1' ++ [i]) Pq' D' A' (put frM oi.dst s) (put fr1 oi.dst s) L' H'':=by
     intro s L' H'' hwf hle hpre hG
     refine ⟨?_,((hf1 _ inv'.wfC).le hle).put hwf _,fun d hd=>List.mem_append_left _ (inv'.sub d hd),fun c hc=>?_,fun x hx=>?_,inv'.prs,fun d hd j hj hjC=>inv'.out d hd j hj fun h=>hjC (List.mem_append_left _ h),fun j hj=>?_,inv'.pp,inv'.aq,inv'.nd,List.Perm.refl _⟩
     ·have h1:Replay F E ops D' frM L H' (putA A' fr1):=inv'.rep.feqC (putA_feq A' he1.symm)
      have h2:=Replay.put (s:=s) h1 hapD
      refine (Replay.mono hle h2 fun d hd o ho hl=>?_).feqC (FEq.symm (putA_put A' fr1 oi.dst s fun a ha e he=>?_))
      ·cases hs:(storeLike oi.op || G i) with
       | false=>exact ⟨(hpre hs).1,fun _=>(hpre hs).2⟩
       | true=>
        obtain ⟨q1,q2⟩:=hld d hd o ho hl hs
        rw [hG q2]
        exact ⟨List.prefix_refl _,fun q=>by rw [q1] at q; cases q⟩
      ·obtain ⟨oa,_,hd,h⟩:=hAap a ha
       rw [hd]
       intro e'
       exact (Oper.apart_spec h).2.1 e e' he
     ·rcases List.mem_append.1 hc with h | h
      ·exact inv'.lt c h
      ·rw [List.mem_singleton] at h; subst h; exact hil
     ·rw [hset]
      by_cases hxi:x = i
      ·subst hxi
       simp only [if_true,true_iff]
       exact .inl ⟨by simp,hiD'⟩
      ·simp only [hxi,if_false]
       rw [inv'.lst x hx]
       simp [hxi]
     ·obtain ⟨h1,h2,oj,fr2,v1,f1,h3,h4,h5,h6,h7,h8⟩:=inv'.pq j hj
      refine ⟨h1,fun h=>?_,oj,fr2,v1,f1,h3,h4,h5,h6,(h7.trans (Agr.feq he1.symm)).trans (Agr.put (ops:=ops) fun e he=>?_),h8⟩
      ·rcases List.mem_append.1 h with h | h
       ·exact h2 h
       ·rw [List.mem_singleton] at h
        exact hiP' (h ▸ hj)
      ·exact (Oper.apart_spec (apB_of (hPap j hj) h3 hoi)).2.2 e he
    rcases hex' with ⟨hw,hex'⟩ | ⟨hw,hex'⟩
    ·refine wp_op hE hD hoi hex' (hws.trans hw) relH (hf1 _ inv'.wfC) wfR (fun x hx=>op1_same hlook hx bs) fun s bs' L' H'' w' hk hwf hx=>?_
     simp only [execs] at hk
     obtain ⟨hG,hk⟩:=hK _ _ _ hk
     obtain ⟨rel2,hc2⟩:=frame_step rel1 hx.toCome hx.rel
     exact ih _ _ _ _ _ _ _ _ _ _ _ _ _ hcnt hsz' closed' hpl' hk (newInv s L' H'' hwf hx.le (fun hs=>hx.pre (by cases dr with | true=>rfl | false=>rw [hdr rfl,Bool.or_true] at hs; cases hs) (by rw [Bool.or_eq_false_iff] at hs; exact hs.1)) hG) rel2 ((wfR.le hx.le).put hwf _) (hc1.trans hc2)
    ·simp only [execs] at hex'
     obtain ⟨hG,hk⟩:=hK _ _ _ hex'
     exact wp_skip_op hoi (hws.trans hw) (ih _ _ _ _ _ _ _ _ _ _ _ _ _ hcnt hsz' closed' hpl' hk (newInv (.v undef) L H' trivial (Nat.le_refl _) (fun _=>⟨List.prefix_refl _,fun _ h=>h⟩) hG) rel1 (WfFr.put wfR (y:=.v undef) trivial _) hc1)
end Go.SX

