/- Parts of a proof: the symbolic walk and what it shows of single functions. -/
import Derived.Test.YtljpknnhimkkjaaGreatDoorX2
import Derived.ChangeKeysEq
import Derived.Carry
import Derived.ProofKit
import Derived.Laws.CopyRow
import Derived.Laws.IdiomCopy
import Derived.Laws.Bits64
set_option linter.all false
namespace Go.SX
open Go.RowKit
abbrev consu (J:Option Nat → (Nat → Prop) → (Nat → Prop) → World → Prop) (st:Option Nat) (C R:Nat → Prop):HO:=.any C R (J st C R)
theorem CallOb.yield {P:Program} {l n:Nat} {arg:Nat → List Value → List HO → Prop} {ws:World} {C0 A:Nat → Prop} {J:Option Nat → (Nat → Prop) → (Nat → Prop) → World → Prop} (hH:Handler P l n arg ws C0 A J)
  {k:Nat} {C R:Nat → Prop} {vs:List Value} {H F B:List HO} {kont:Value → List HO → Prop} (hk:k < n)
  (hi:HImp ⟨ws,fun b=>C0 b ∨ A b⟩ H (consu J (some k) C R :: B)) (hF:F.Sublist B) (harg:arg k vs F) (hFx:∀ h ∈ F,∀ b,¬ h.fpx b) (hFn:∀ w,Hp ⟨ws,fun b=>C0 b ∨ A b⟩ H w → ∀ b,fps F b → ws.heap.size ≤ b)
  (hy:∀ t C2 R2,kont (.bool t) (consu J (bif t then some (k + 1) else none) C2 R2 :: B)):CallOb P ⟨ws,fun b=>C0 b ∨ A b⟩ false (.yield l) vs H kont:=by
 intro w hp0
 have hp:=(hi w hp0).1
 have hnd:=List.pairwise_cons.1 hp.nd
 have hc:=hp.ok (consu J (some k) C R) List.mem_cons_self
 have hB:∀ h ∈ B,h.ok w:=fun h hh=>hp.ok h (List.mem_cons_of_mem _ hh)
 have hFC:∀ b,fps F b → ¬ C b ∧ ws.heap.size ≤ b:=fun b hb=>⟨fun hC=>by
  obtain ⟨g,hg,hgb⟩:=hb
  exact (hnd.1 g (hF.subset hg) b (.inl hC) hgb).1 hC,hFn w hp0 b hb⟩
 obtain ⟨fn,tmps,assign,body,hrun,hround⟩:=hH.step k C R vs F w hk hc.1 harg (fun h hh=>hB h (hF.subset hh)) hFx hFC (hnd.2.sublist hF) hp.ext
 refine ⟨fn,tmps,assign,body,hrun,RoundIn.mono hround ?_⟩
 rintro e w2 ⟨t,C2,R2,rfl,hkeep,hC2,hR2,hJ⟩
 have hlt:∀ h ∈ B,∀ b,h.fp b → b < w.heap.size:=fun h hh b hb=>HO.lt (hB h hh) hb
 have hBC:∀ h ∈ B,∀ b,h.fp b → ¬ C b:=fun h hh b hb hC=>(hnd.1 h hh b (.inl hC) hb).1 hC
 have upx:∀ b,C b → fpsx H b:=fun b hb=>(hi w hp0).2.2 b ⟨_,List.mem_cons_self,hb⟩
 have upr:∀ b,R b → fps H b:=fun b hb=>(hi w hp0).2.1 b ⟨_,List.mem_cons_self,.inr hb⟩
 have upB:∀ h ∈ B,∀ b,h.fp b → fps H b:=fun h hh b hb=>(hi w hp0).2.1 b ⟨h,List.mem_cons_of_mem _ hh,hb⟩
 have upBx:∀ h ∈ B,∀ b,h.fpx b → fpsx H b:=fun h hh b hb=>(hi w hp0).2.2 b ⟨h,List.mem_cons_of_mem _ hh,hb⟩
 have hBs:∀ h ∈ B,SameOn h.fp w w2:=fun h hh=>hkeep.sameOn (hlt h hh) (hBC h hh)
 have hfp2:∀ b,C2 b ∨ R2 b → fps H b ∨ w.heap.size ≤ b:=fun b hb=>by
  rcases hb with hb | hb
  ·rcases hC2 b hb with x | x
   ·exact .inl (fps_of_fpsx (upx b x))
   ·exact .inr x
  ·rcases hR2 b hb with x | ⟨g,hg,x⟩ | x | x
   ·exact .inl (upr b x)
   ·exact .inl (upB g (hF.subset hg) b x)
   ·exact .inl (fps_of_fpsx (upx b x))
   ·exact .inr x
 refine ⟨_,C,consu J (bif t then some (k + 1) else none) C2 R2 :: B,rfl,hkeep,upx,⟨hkeep.into hp.ext fun b hb=>hp.old _ List.mem_cons_self b hb,fun h hh=>?_,fun h hh b hb=>?_,List.pairwise_cons.2 ⟨fun h hh b hb hb'=>?_,hnd.2⟩⟩,fun h hh b=>⟨fun hb=>?_,fun hb=>?_⟩,(fun h=>by cases h),hy t C2 R2⟩
 ·rcases List.mem_cons.1 hh with rfl | hh
  ·exact ⟨hJ,hH.lt _ _ _ _ hJ,fun w1 w2 hs hl hj=>hH.stable _ _ _ _ _ hs hl hj⟩
  ·exact HO.stable (hB h hh) (hBs h hh)
 ·rcases List.mem_cons.1 hh with rfl | hh
  ·rcases hC2 b hb with x | x
   ·exact hp.old _ List.mem_cons_self b x
   ·exact .inr (Nat.le_trans hp.ext.size x)
  ·exact hp.old h (List.mem_cons_of_mem _ hh) b hb
 ·have hltb:=hlt h hh b hb'
  have hnc:=hBC h hh b hb'
  have h1:¬ C2 b:=fun x=>by
   rcases hC2 b x with x | x
   ·exact hnc x
   ·omega
  refine ⟨h1,fun hx=>?_⟩
  rcases hb with x | x
  ·exact h1 x
  ·rcases hR2 b x with x | ⟨g,hg,x⟩ | x | x
   ·exact (hnd.1 h hh b (.inr x) hb').2 hx
   ·rcases List.mem_iff_getElem.1 hh with ⟨i,hi',rfl⟩
    rcases List.mem_iff_getElem.1 (hF.subset hg) with ⟨j,hj',rfl⟩
    rcases Nat.lt_trichotomy i j with h3 | h3 | h3
    ·exact (List.pairwise_iff_getElem.1 hnd.2 i j hi' hj' h3 b hb' x).1 hx
    ·subst h3
     exact hFx _ hg b hx
    ·exact (List.pairwise_iff_getElem.1 hnd.2 j i hj' hi' h3 b x hb').2 hx
   ·exact hnc x
   ·omega
 ·rcases List.mem_cons.1 hh with rfl | hh
  ·exact hfp2 b hb
  ·exact .inl (upB h hh b hb)
 ·rcases List.mem_cons.1 hh with rfl | hh
  ·rcases hC2 b hb with x | x
   ·exact .inl (upx b x)
   ·exact .inr x
  ·exact .inl (upBx h hh b hb)
def since (w:World) (C R:Nat → Prop) (J:Option Nat → (Nat → Prop) → (Nat → Prop) → World → Prop):Option Nat → (Nat → Prop) → (Nat → Prop) → World → Prop:=fun st C' R' v=>
 J st C' R' v ∧ (∀ b,C' b → C b ∨ w.heap.size ≤ b) ∧ (∀ b,R' b → R b ∨ C b ∨ w.heap.size ≤ b)
theorem Handler.since {P:Program} {l n:Nat} {arg:Nat → List Value → List HO → Prop} {ws:World} {C0 A:Nat → Prop} {J:Option Nat → (Nat → Prop) → (Nat → Prop) → World → Prop} (C R:Nat → Prop) (h:Handler P l n arg ws C0 A J):Handler P l n arg ws C0 A (Go.SX.since ws C R J) where
 stable:=fun st C' R' w1 w2 hs hl hj=>⟨h.stable st C' R' w1 w2 hs hl hj.1,hj.2⟩
 lt:=fun st C' R' w1 hj=>h.lt st C' R' w1 hj.1
 step:=fun k C' R' vs F w1 hk hj ha hF hFx hFC hFn hkeep=>by
  obtain ⟨fn,tmps,assign,body,hrun,hround⟩:=h.step k C' R' vs F w1 hk hj.1 ha hF hFx hFC hFn hkeep
  refine ⟨fn,tmps,assign,body,hrun,RoundIn.mono hround ?_⟩
  rintro e w2 ⟨t,C2,R2,he,hk2,hC2,hR2,hJ⟩
  refine ⟨t,C2,R2,he,hk2,hC2,hR2,hJ,fun b hb=>?_,fun b hb=>?_⟩
  ·rcases hC2 b hb with x | x
   ·exact hj.2.1 b x
   ·exact .inr (Nat.le_trans hkeep.size x)
  ·rcases hR2 b hb with x | x | x | x
   ·exact hj.2.2 b x
   ·exact .inr (.inr (hFC b x).2)
   ·exact .inr (hj.2.1 b x)
   ·exact .inr (.inr (Nat.le_trans hkeep.size x))
def iterPost (n:Nat) (J:Option Nat → (Nat → Prop) → (Nat → Prop) → World → Prop):Value → List HO → Prop:=fun v N=>
 v = .tuple #[] ∧ ∃ st C R,consu J st C R ∈ N ∧ (st = some n ∨ st = none)
theorem Iter.intro {P:Program} {gf n:Nat} {pre post:List Value} {arg:Nat → List Value → List HO → Prop} {Rs:Nat → Prop} {w:World}
  (h:∀ l J C R,(∀ b,Rs b → ¬ C b) → Handler P l n arg w C (fun _=>False) J → HO.ok w (consu J (some 0) C R) →
   Calls P gf (pre ++ [Value.func (.yield l) #[] #[]] ++ post).toArray w fun e w'=>∃ v N,e = .returned v ∧ Keep (fun b=>C b ∨ False) w w' ∧ (∀ h ∈ N,h.ok w') ∧ (∀ h ∈ N,∀ b,(h.fp b → (C b ∨ R b) ∨ w.heap.size ≤ b) ∧ (h.fpx b → (C b ∨ False) ∨ w.heap.size ≤ b)) ∧ N.Pairwise Apart ∧ iterPost n J v N):
  Iter P gf pre post n arg (fun _=>False) Rs w:=by
 intro l J C R hH hJ _ hRs
 have hJ':Go.SX.since w C R J (some 0) C R w:=⟨hJ,fun b hb=>.inl hb,fun b hb=>.inl hb⟩
 refine Calls.mono (h l _ C R hRs (hH.since C R) ⟨hJ',(hH.since C R).lt _ _ _ _ hJ',fun w1 w2 hs hl hj=>(hH.since C R).stable _ _ _ _ _ hs hl hj⟩) ?_
 rintro e w' ⟨v,N,rfl,hk,hok,hfp,hn,rfl,st,C2,R2,hm,hst⟩
 have:=hok _ hm
 exact ⟨st,C2,R2,rfl,hk,this.1.2.1,this.1.2.2,hst,this.1.1⟩
theorem sxo:(∀ (k:IntKind) (n:Int),Value.oneCell' (.int k n) = true) ∧ (∀ b:Bool,Value.oneCell' (.bool b) = true) ∧ (∀ (a:Option Addr) (n m:Nat),Value.oneCell' (.slice a n m) = true) ∧ (∀ s:ByteArray,Value.oneCell' (.string s) = true) ∧
  (∀ a:Option Addr,Value.oneCell' (.pointer a) = true) ∧ (∀ a:Option Nat,Value.oneCell' (.map a) = true) ∧ (∀ (f:Go.Fn) (a b:Array Value),Value.oneCell' (.func f a b) = true) ∧ Value.oneCell' .nilFunc = true:=
 ⟨fun _ _=>rfl,fun _=>rfl,fun _ _ _=>rfl,fun _=>rfl,fun _=>rfl,fun _=>rfl,fun _ _ _=>rfl,rfl⟩
theorem sxc:(∀ (α:Type) (a b:α),(bif true then a else b) = a) ∧ (∀ (α:Type) (a b:α),(bif false then a else b) = b):=⟨fun _ _ _=>rfl,fun _ _ _=>rfl⟩
theorem loop_const {σ:Type} {w0:Base} {B:XSt → St} {Q:XSt} {fr:List SV} {L:List Box} {H:List HO} (wr:List (Nat × Nat)) (enc:σ → List (Nat × Value)) (Inv:σ → List HO → Prop) (μ:σ → Nat) (s0:σ)
  (hfit:fits 0 wr (enc s0) fr fr) (hI:Inv s0 H) (h:∀ s H1 g,Inv s H1 → B (loopQ w0 wr enc (fun _=>L) Inv μ fr L.length (μ s) Q) (hv 0 wr (enc s) g fr) L H1):LoopOb w0 B Q fr L H:=
 ⟨σ,wr,enc,fun _=>L,Inv,μ,s0,H,hfit,rfl,fun _=>rfl,HImp.refl _ _,hI,h⟩
theorem loop_constI {σ:Type} {w0:Base} {B:XSt → St} {Q:XSt} {fr:List SV} {L:List Box} {H:List HO} (H0:List HO) (hi:HImp w0 H H0) (wr:List (Nat × Nat)) (enc:σ → List (Nat × Value)) (Inv:σ → List HO → Prop) (μ:σ → Nat) (s0:σ)
  (hfit:fits 0 wr (enc s0) fr fr) (hI:Inv s0 H0) (h:∀ s H1 g,Inv s H1 → B (loopQ w0 wr enc (fun _=>L) Inv μ fr L.length (μ s) Q) (hv 0 wr (enc s) g fr) L H1):LoopOb w0 B Q fr L H:=
 ⟨σ,wr,enc,fun _=>L,Inv,μ,s0,H0,hfit,rfl,fun _=>rfl,hi,hI,h⟩
theorem cut_const {σ:Type} {w0:Base} {B:XSt → St} {K:St} {Q:XSt} {fr:List SV} {L:List Box} {H:List HO} (wr:List (Nat × Nat)) (enc:σ → List (Nat × Value)) (Inv:σ → List HO → Prop)
  (hB:B (cutQ w0 wr enc (fun _=>L) Inv fr L.length Q) fr L H) (hK:∀ s H1 g,Inv s H1 → K (hv 0 wr (enc s) g fr) L H1):hold (CutOb w0 B K Q fr L H) ⟨0⟩:=
 ⟨σ,wr,enc,fun _=>L,Inv,fun _=>rfl,hB,hK⟩
end Go.SX

namespace Go.SX
open Go.RowKit
theorem sxp:
  (∀ (p:Prop),(p ∧ p) = p) ∧ (∀ (p:Prop),(False → p) = True) ∧ (∀ (p:Prop),(True ∧ p) = p) ∧ (∀ (p:Prop),(p ∧ True) = p) ∧ (∀ (p:Prop),(True → p) = p) ∧ (∀ (α:Sort 1),(α → True) = True) ∧ (∀ (p:Prop),(p → True) = True) ∧
  (¬ True) = False ∧ (¬ False) = True ∧ (∀ (p q:Prop),(if True then p else q) = p) ∧ (∀ (p q:Prop),(if False then p else q) = q):=by
 simp
theorem sxq:(∀ (p:Prop) [Decidable p],(¬ ¬ p) = p) ∧ (∀ (p:Prop) [Decidable p],(decide p = true) = p) ∧ (∀ (p:Prop) [Decidable p],(decide p = false) = ¬ p) ∧ (∀ h:Decidable True,@decide True h = true) ∧ (∀ h:Decidable False,@decide False h = false) ∧
  (∀ (α:Type) (a b:α),(a ≠ b) = ¬ (a = b)):=by
 simp
theorem sxr:(∀ b:Bool,((!b) = true) = (b = false)) ∧ (∀ b:Bool,((!b) = false) = (b = true)) ∧ ((false = true) = False) ∧ ((true = false) = False) ∧ (∀ b:Bool,(b && true) = b) ∧ (∀ b:Bool,(true && b) = b) ∧ (∀ b:Bool,(b && false) = false) ∧ (∀ b:Bool,(false && b) = false) ∧
  (∀ b:Bool,(b || true) = true) ∧ (∀ b:Bool,(true || b) = true) ∧ (∀ b:Bool,(b || false) = b) ∧ (∀ b:Bool,(false || b) = b) ∧ (!true) = false ∧ (!false) = true:=by
 simp
theorem sxs:(∀ (a:Int),(a == a) = true) ∧ (∀ a:Int,(a != a) = false) ∧ (∀ a b:Int,(a == b) = true ↔ a = b) ∧ (∀ a b:Int,(a != b) = true ↔ a ≠ b) ∧ (∀ a b:Int,(a == b) = false ↔ a ≠ b) ∧ (∀ a b:Int,(a != b) = false ↔ a = b) ∧
  (∀ (a:Nat),(a == a) = true) ∧ (∀ a:Nat,(a != a) = false) ∧ (∀ a b:Nat,(a == b) = true ↔ a = b) ∧ (∀ a b:Nat,(a != b) = true ↔ a ≠ b) ∧ (∀ (a:Bool),(a == a) = true) ∧ (∀ a:Bool,(a != a) = false) ∧ (∀ a b:Bool,(a == b) = true ↔ a = b) ∧ (∀ a b:Bool,(a != b) = true ↔ a ≠ b) ∧
  (∀ a b:Bool,(a == b) = false ↔ a ≠ b) ∧ (∀ a b:Bool,(a != b) = false ↔ a = b) ∧ (∀ n:Nat,(n:Int).toNat = n) ∧ (∀ n:Nat,0 + n = n):=by
 refine ⟨?_,?_,?_,?_,?_,?_,?_,?_,?_,?_,?_,?_,?_,?_,?_,?_,?_,?_⟩ <;> simp
theorem sxl (α:Type):(∀ (p:α → Bool) (a:α) (l:List α),(a :: l).all p = (p a && l.all p)) ∧ (∀ (p:α → Bool),([]:List α).all p = true) ∧
  (∀ l:List α,[] ++ l = l) ∧ (∀ (a:α) (l m:List α),(a :: l) ++ m = a :: (l ++ m)) ∧ (∀ l:List α,l ++ [] = l) ∧ (∀ (a:α) (l:List α),(a :: l).length = l.length + 1) ∧ ([]:List α).length = 0 ∧
  (∀ (a:α) (l:List α),(a :: l)[0]? = some a) ∧ (∀ (a:α) (l:List α) (n:Nat),(a :: l)[n + 1]? = l[n]?) ∧ (∀ l:List α,l.drop 0 = l) ∧ (∀ (a:α) (l:List α) (n:Nat),(a :: l).drop (n + 1) = l.drop n) ∧ (∀ l:List α,l.take 0 = []) ∧ (∀ (a:α) (l:List α) (n:Nat),(a :: l).take (n + 1) = a :: l.take n) ∧
  (∀ l:List α,l.toArray.toList = l) ∧ (∀ a:α,(some a).isSome = true) ∧ (∀ a:α,(a = a) = True):=by
 simp
theorem sxm (α β:Type):(∀ (f:α → β) (a:α) (l:List α),(a :: l).map f = f a :: l.map f) ∧ (∀ (f:α → β),([]:List α).map f = []) ∧
  (∀ (a:α) (l:List α) (b:β) (m:List β),(a :: l).zip (b :: m) = (a,b) :: l.zip m) ∧ (∀ l:List α,l.zip ([]:List β) = []) ∧ (∀ (f:α → β) (a:α),(some a).map f = some (f a)) ∧ (∀ f:α → β,(none:Option α).map f = none):=by
 simp
theorem sxw:type_of% (And.intro sx0 (And.intro sx1 (And.intro sx2 (And.intro sx3 (And.intro sx4 (And.intro sx5 sx6)))))):=And.intro sx0 (And.intro sx1 (And.intro sx2 (And.intro sx3 (And.intro sx4 (And.intro sx5 sx6)))))
theorem sxu:type_of% (And.intro ev3_hold (And.intro sxo (And.intro sxc (And.intro sxp (And.intro sxq (And.intro sxr sxs)))))):=And.intro ev3_hold (And.intro sxo (And.intro sxc (And.intro sxp (And.intro sxq (And.intro sxr sxs)))))
end Go.SX

namespace Go.SX
open Go.RowKit
theorem ld1 {w0:Base} {H:List HO} {ad:Addr} {xs:List Value} {i:Nat} {v:Value} {K:SV → Prop} (hm:Rds w0 H ad xs) (hv:xs[i]? = some v) (hK:K (.v v)):LdOb w0 H (ad.add i) none K:=
 ⟨v,hm i v hv,hK⟩
theorem Sl.len {w:World} {a:Option Addr} {n c sz:Nat} {xs:List Value} (h:Sl w (.slice a n c) sz xs):xs.length = n * sz:=by
 obtain ⟨_,_,_,e,hl,_⟩:=h
 cases e
 exact hl
theorem Sl.addr {w:World} {a:Option Addr} {n c sz:Nat} {xs:List Value} (h:Sl w (.slice a n c) sz xs) (hn:0 < xs.length):∃ ad,a = some ad:=by
 obtain ⟨_,_,_,e,_,hc⟩:=h
 cases e
 obtain ⟨ad,e,_⟩:=hc 0 xs[0] (by simp [hn])
 exact ⟨ad,e⟩
theorem row_rds {w0:Base} {H:List HO} {ad:Addr} {len cap sz:Nat} {E:TypeId} {xs:List Value} (h:HO.row (.slice (some ad) len cap) E sz xs ∈ H):Rds w0 H ad xs:=fun _ _ hi=>row_rd h hi
theorem Sl.hp {w0:Base} {H:List HO} {v:Value} {sz:Nat} {xs:List Value} (h:Sl w0.w v sz xs) (hX:∀ b,v.ownBlock = some b → ¬ w0.X b) {w:World} (hp:Hp w0 H w):Sl w v sz xs:=h.keep hp.ext hX
theorem row_hp {w0:Base} {H:List HO} {v:Value} {E:TypeId} {sz:Nat} {xs:List Value} (h:HO.row v E sz xs ∈ H) {w:World} (hp:Hp w0 H w):Sl w v sz xs:=RowOk.sl (E:=E) (hp.ok _ h)
end Go.SX

namespace Go.SX
open Go.RowKit
def cat {α:Type} (f:α → List Value) (l:List α):List Value:=l.flatMap f
theorem cat_len {α:Type} {f:α → List Value} {n:Nat} (h:∀ a,(f a).length = n) (l:List α):(cat f l).length = l.length * n:=by
 induction l with
 | nil=>simp [cat]
 | cons u us ih=>
  rw [cat] at ih
  rw [cat,List.flatMap_cons,List.length_append,ih,h,List.length_cons,Nat.add_mul]
  omega
theorem cat_append {α:Type} (f:α → List Value) (l m:List α):cat f (l ++ m) = cat f l ++ cat f m:=List.flatMap_append
theorem cat_cons {α:Type} (f:α → List Value) (u:α) (l:List α):cat f (u :: l) = f u ++ cat f l:=List.flatMap_cons
theorem cat_one {α:Type} (f:α → List Value) (u:α):cat f [u] = f u:=by simp [cat]
theorem cat_get {α:Type} {f:α → List Value} {n:Nat} (h:∀ a,(f a).length = n) {l:List α} {i:Nat} {u:α} (hu:l[i]? = some u) {j:Nat} (hj:j < n):(cat f l)[i * n + j]? = (f u)[j]?:=by
 induction l generalizing i with
 | nil=>simp at hu
 | cons x us ih=>
  rw [cat_cons]
  cases i with
  | zero=>
   simp only [List.getElem?_cons_zero,Option.some.injEq] at hu
   subst hu
   rw [List.getElem?_append_left (by rw [h]; omega)]
   simp
  | succ i=>
   simp only [List.getElem?_cons_succ] at hu
   have e:(i + 1) * n + j = (f x).length + (i * n + j):=by rw [h,Nat.add_mul]; omega
   rw [e,List.getElem?_append_right (by omega)]
   rw [show (f x).length + (i * n + j) - (f x).length = i * n + j by omega]
   exact ih hu
theorem cat_take {α:Type} {f:α → List Value} {n:Nat} (h:∀ a,(f a).length = n) (l:List α) (k:Nat):(cat f l).take (k * n) = cat f (l.take k):=by
 induction l generalizing k with
 | nil=>simp [cat]
 | cons x us ih=>
  cases k with
  | zero=>simp [cat]
  | succ k=>
   rw [List.take_succ_cons,cat_cons,cat_cons,show (k + 1) * n = (f x).length + k * n by rw [h,Nat.add_mul]; omega,List.take_length_add_append,ih]
theorem cat_drop {α:Type} {f:α → List Value} {n:Nat} (h:∀ a,(f a).length = n) (l:List α) (k:Nat):(cat f l).drop (k * n) = cat f (l.drop k):=by
 induction l generalizing k with
 | nil=>simp [cat]
 | cons x us ih=>
  cases k with
  | zero=>simp
  | succ k=>
   rw [List.drop_succ_cons,cat_cons,show (k + 1) * n = (f x).length + k * n by rw [h,Nat.add_mul]; omega,List.drop_length_add_append,ih]
theorem cat_set {α:Type} {f:α → List Value} {n:Nat} (h:∀ a,(f a).length = n) (l:List α) (k:Nat) (u:α) (hk:k < l.length):(cat f l).take (k * n) ++ f u ++ (cat f l).drop (k * n + (f u).length) = cat f (l.set k u):=by
 rw [cat_take h,h,show k * n + n = (k + 1) * n by rw [Nat.add_mul]; omega,cat_drop h,List.set_eq_take_append_cons_drop,if_pos hk,cat_append,cat_cons]
 simp
def i1 (n:Int):List Value:=[.int .i64 n]
abbrev ints (l:List Int):List Value:=cat i1 l
theorem i1_len (n:Int):(i1 n).length = 1:=rfl
def b1 (t:Bool):List Value:=[.bool t]
abbrev bools (l:List Bool):List Value:=cat b1 l
theorem b1_len (t:Bool):(b1 t).length = 1:=rfl
def Rdv (w0:Base) (H:List HO) (v:Value) (sz:Nat) (xs:List Value):Prop:=
 ∃ a len cap,v = .slice a len cap ∧ xs.length = len * sz ∧ ∀ i x,xs[i]? = some x → ∃ ad,a = some ad ∧ Rd w0 H (ad.add i) x
theorem own_of {ad:Addr} {len cap:Nat} (i:Nat):(Value.slice (some ad) len cap).ownBlock = some (ad.add i).block:=by
 have:(ad.add i).block = ad.block:=by unfold Addr.add; split <;> rfl
 rw [this]
 rfl
theorem Sl.rdv {w:World} {X:Nat → Prop} {v:Value} {sz:Nat} {xs:List Value} (h:Sl w v sz xs) (hX:∀ b,v.ownBlock = some b → ¬ X b) (H:List HO):Rdv ⟨w,X⟩ H v sz xs:=by
 obtain ⟨a,len,cap,rfl,hl,hc⟩:=h
 refine ⟨a,len,cap,rfl,hl,fun i x hx=>?_⟩
 obtain ⟨ad,ha,hc'⟩:=hc i x hx
 subst ha
 exact ⟨ad,rfl,.inl ⟨hc',hX _ (own_of i)⟩⟩
theorem Sl.rd0 {w:World} {v:Value} {sz:Nat} {xs:List Value} (h:Sl w v sz xs) (H:List HO):Rdv ⟨w,fun _=>False⟩ H v sz xs:=h.rdv (fun _ _=>id) H
theorem row_rdv {w0:Base} {H:List HO} {v:Value} {E:TypeId} {sz:Nat} {xs:List Value} (h:HO.row v E sz xs ∈ H) (hl:∃ a len cap,v = .slice a len cap ∧ xs.length = len * sz ∧ (a = none → xs = [])):Rdv w0 H v sz xs:=by
 obtain ⟨a,len,cap,rfl,hl,hn⟩:=hl
 refine ⟨a,len,cap,rfl,hl,fun i x hx=>?_⟩
 cases a with
 | none=>
  rw [hn rfl] at hx
  simp at hx
 | some ad=>exact ⟨ad,rfl,row_rd h hx⟩
theorem at_n {α:Type} {w0:Base} {H:List HO} {a:Option Addr} {len cap n:Nat} {f:α → List Value} {l:List α} {k:Nat} {u:α} {K:Addr → SV → Prop} (h:Rdv w0 H (.slice a len cap) n (cat f l)) (hf:∀ a,(f a).length = n) (hn:0 < n)
  (hu:l[k]? = some u) (hK:∀ ad,K ad (.v (.agg (f u).toArray))):0 ≤ (k:Int) ∧ (k:Int) < (len:Int) ∧ ∃ ad,a = some ad ∧ hold (LdOb w0 H (ad.add (k * n)) (some n) (K ad)) ⟨0⟩:=by
 obtain ⟨a',len',cap',e,hl,hc⟩:=h
 cases e
 have hk:k < l.length:=(List.getElem?_eq_some_iff.1 hu).1
 rw [cat_len hf] at hl
 have hln:=Nat.eq_of_mul_eq_mul_right hn hl
 obtain ⟨ad,rfl,_⟩:=hc (k * n + 0) ((f u)[0]'(by rw [hf]; exact hn)) ((cat_get hf hu hn).trans (List.getElem?_eq_getElem _))
 refine ⟨by omega,by omega,ad,rfl,f u,hf u,fun j v hj=>?_,hK ad⟩
 obtain ⟨ad',e,hr⟩:=hc (k * n + j) v (by rw [cat_get hf hu (by have:=(List.getElem?_eq_some_iff.1 hj).1; rw [hf] at this; exact this)]; exact hj)
 cases e
 rw [add_add]
 exact hr
theorem at_f {α:Type} {w0:Base} {H:List HO} {a:Option Addr} {len cap n:Nat} {f:α → List Value} {l:List α} {k o:Nat} {u:α} {x:Value} {K:Addr → SV → Prop} (h:Rdv w0 H (.slice a len cap) n (cat f l)) (hf:∀ a,(f a).length = n)
  (hu:l[k]? = some u) (hx:(f u)[o]? = some x) (hK:∀ ad,K ad (.v x)):0 ≤ (k:Int) ∧ (k:Int) < (len:Int) ∧ ∃ ad,a = some ad ∧ hold (LdOb w0 H ((ad.add (k * n)).add o) none (K ad)) ⟨0⟩:=by
 obtain ⟨a',len',cap',e,hl,hc⟩:=h
 cases e
 have hk:k < l.length:=(List.getElem?_eq_some_iff.1 hu).1
 have ho:o < n:=by have:=(List.getElem?_eq_some_iff.1 hx).1; rw [hf] at this; exact this
 rw [cat_len hf] at hl
 have hln:=Nat.eq_of_mul_eq_mul_right (by omega) hl
 obtain ⟨ad,rfl,hr⟩:=hc (k * n + o) x (by rw [cat_get hf hu ho]; exact hx)
 refine ⟨by omega,by omega,ad,rfl,x,?_,hK ad⟩
 rw [add_add]
 exact hr
theorem at_1 {α:Type} {w0:Base} {H:List HO} {a:Option Addr} {len cap:Nat} {f:α → List Value} {l:List α} {k:Nat} {u:α} {x:Value} {K:Addr → SV → Prop} (h:Rdv w0 H (.slice a len cap) 1 (cat f l)) (hf:∀ a,(f a).length = 1)
  (hu:l[k]? = some u) (hx:f u = [x]) (hK:∀ ad,K ad (.v x)):0 ≤ (k:Int) ∧ (k:Int) < (len:Int) ∧ ∃ ad,a = some ad ∧ hold (LdOb w0 H (ad.add (k * 1)) none (K ad)) ⟨0⟩:=by
 obtain ⟨h1,h2,ad,e,h3⟩:=at_f (K:=fun ad s=>K ad s) (o:=0) h hf hu (by rw [hx]; rfl) hK
 refine ⟨h1,h2,ad,e,?_⟩
 change LdOb w0 H ((ad.add (k * 1)).add 0) none _ at h3
 rw [add_add,Nat.add_zero] at h3
 exact h3
theorem Sl.le {w:World} {a:Option Addr} {len cap n:Nat} {α:Type} {f:α → List Value} {l:List α} (h:Sl w (.slice a len cap) n (cat f l)) (hf:∀ a,(f a).length = n) (hn:0 < n):l.length = len:=by
 have:=h.len
 rw [cat_len hf] at this
 exact Nat.eq_of_mul_eq_mul_right hn this
theorem Sl.shape {w:World} {v:Value} {sz:Nat} {xs:List Value} (h:Sl w v sz xs):∃ a len cap,v = .slice a len cap:=by
 obtain ⟨a,len,cap,rfl,_⟩:=h
 exact ⟨a,len,cap,rfl⟩
theorem HImp.nilRow (w0:Base) (H:List HO) (e sz:Nat):HImp w0 H (.row (.slice none 0 0) e sz [] :: H):=fun w hw=>by
 have none_fp:∀ b,¬ (HO.row (.slice none 0 0) e sz []).fp b:=fun b hb=>by cases hb
 refine ⟨⟨hw.ext,fun h hh=>?_,fun h hh b hb=>?_,List.pairwise_cons.2 ⟨fun h _ b hb=>(none_fp b hb).elim,hw.nd⟩⟩,fun b ⟨h,hh,hb⟩=>?_,fun b ⟨h,hh,hb⟩=>?_⟩
 ·rcases List.mem_cons.1 hh with rfl | hh
  ·exact .inl ⟨rfl,rfl⟩
  ·exact hw.ok h hh
 ·rcases List.mem_cons.1 hh with rfl | hh
  ·exact (none_fp b (HO.fp_of_fpx hb)).elim
  ·exact hw.old h hh b hb
 ·rcases List.mem_cons.1 hh with rfl | hh
  ·exact (none_fp b hb).elim
  ·exact ⟨h,hh,hb⟩
 ·rcases List.mem_cons.1 hh with rfl | hh
  ·exact (none_fp b (HO.fp_of_fpx hb)).elim
  ·exact ⟨h,hh,hb⟩
theorem HImp.tail (w0:Base) (h:HO) (H:List HO):HImp w0 (h :: H) H:=HImp.sub (List.sublist_cons_self _ _)
theorem HImp.tail2 (w0:Base) (h h':HO) (H:List HO):HImp w0 (h :: h' :: H) (h :: H):=HImp.sub ((List.sublist_cons_self _ _).cons_cons _)
theorem HImp.swap (w0:Base) (h h':HO) (H:List HO):HImp w0 (h :: h' :: H) (h' :: h :: H):=HImp.perm (List.Perm.swap _ _ _)
theorem app_atN {α:Type} {w0:Base} {e sz bytes:Nat} {z:List Value} {s x:Value} {H A:List HO} {K:Value → List HO → Prop} {f:α → List Value} {l m:List α} (hi:HImp w0 H (.row s e sz (cat f l) :: A)) (hf:∀ a,(f a).length = sz) (h1:∀ a,∀ y ∈ f a,y.oneCell' = true)
  (hx:∀ w,Hp w0 H w → Sl w x sz (cat f m)) (hb:(l.length + m.length) * bytes ≤ 140737488355328)
  (hK:∀ ad c,(ad = none → l = [] ∧ m = []) → l.length + m.length ≤ c → (∀ b,(Value.slice ad (l.length + m.length) c).ownBlock = some b → s.ownBlock = some b ∨ w0.w.heap.size ≤ b) → K (.slice ad (l.length + m.length) c) (.row (.slice ad (l.length + m.length) c) e sz (cat f (l ++ m)) :: A)):hold (AppOb w0 (some (e,sz,z,bytes)) s x H K) ⟨0⟩:=by
 refine .inl ⟨l.length,m.length,cat f l,cat f m,A,hi,cat_len hf l,cat_len hf m,hx,fun y hy=>?_,hb,fun ad c h hc hn=>?_⟩
 ·obtain ⟨a,_,ha⟩:=List.mem_flatMap.1 hy
  exact h1 a y ha
 ·rw [← cat_append]
  exact hK ad c (fun h0=>⟨List.eq_nil_of_length_eq_zero (h h0).1,List.eq_nil_of_length_eq_zero (h h0).2⟩) hc hn
theorem app_atC {α:Type} {w0:Base} {e sz bytes:Nat} {z:List Value} {s x:Value} {H A:List HO} {K:Value → List HO → Prop} {f:α → List Value} {l m:List α} (hi:HImp w0 H (.row s e sz (cat f l) :: A)) (hf:∀ a,(f a).length = sz) (h1:∀ a,∀ y ∈ f a,y.oneCell' = true)
  (hx:∀ w,Hp w0 H w → Sl w x sz (cat f m)) (hb:(l.length + m.length) * bytes ≤ 140737488355328)
  (hK:∀ ad c,(ad = none → l = [] ∧ m = []) → l.length + m.length ≤ c → K (.slice ad (l.length + m.length) c) (.row (.slice ad (l.length + m.length) c) e sz (cat f (l ++ m)) :: A)):hold (AppOb w0 (some (e,sz,z,bytes)) s x H K) ⟨0⟩:=
 app_atN hi hf h1 hx hb fun ad c h hc _=>hK ad c h hc
theorem app_at {α:Type} {w0:Base} {e sz bytes:Nat} {z:List Value} {s x:Value} {H A:List HO} {K:Value → List HO → Prop} {f:α → List Value} {l m:List α} (hi:HImp w0 H (.row s e sz (cat f l) :: A)) (hf:∀ a,(f a).length = sz) (h1:∀ a,∀ y ∈ f a,y.oneCell' = true)
  (hx:∀ w,Hp w0 H w → Sl w x sz (cat f m)) (hb:(l.length + m.length) * bytes ≤ 140737488355328)
  (hK:∀ ad c,(ad = none → l = [] ∧ m = []) → K (.slice ad (l.length + m.length) c) (.row (.slice ad (l.length + m.length) c) e sz (cat f (l ++ m)) :: A)):hold (AppOb w0 (some (e,sz,z,bytes)) s x H K) ⟨0⟩:=
 app_atC hi hf h1 hx hb fun ad c h _=>hK ad c h
theorem app_roN {α:Type} {w0:Base} {e sz bytes:Nat} {z:List Value} {a:Addr} {x:Value} {H:List HO} {K:Value → List HO → Prop} {f:α → List Value} {l m:List α} (hf:∀ a,(f a).length = sz) (h0:0 < m.length) (hs:∀ w,Hp w0 H w → Sl w (.slice (some a) l.length l.length) sz (cat f l))
  (hx:∀ w,Hp w0 H w → Sl w x sz (cat f m)) (hb:(l.length + m.length) * bytes ≤ 140737488355328)
  (hK:∀ b c,w0.w.heap.size ≤ b → K (.slice (some ⟨b,0,none⟩) (l.length + m.length) c) (.row (.slice (some ⟨b,0,none⟩) (l.length + m.length) c) e sz (cat f (l ++ m)) :: H)):hold (AppOb w0 (some (e,sz,z,bytes)) (.slice (some a) l.length l.length) x H K) ⟨0⟩:=by
 refine .inr ⟨a,l.length,m.length,cat f l,cat f m,rfl,cat_len hf l,cat_len hf m,h0,hs,hx,hb,fun b c hb _=>?_⟩
 rw [← cat_append]
 exact hK b c hb
theorem app_ro {α:Type} {w0:Base} {e sz bytes:Nat} {z:List Value} {a:Addr} {x:Value} {H:List HO} {K:Value → List HO → Prop} {f:α → List Value} {l m:List α} (hf:∀ a,(f a).length = sz) (h0:0 < m.length) (hs:∀ w,Hp w0 H w → Sl w (.slice (some a) l.length l.length) sz (cat f l))
  (hx:∀ w,Hp w0 H w → Sl w x sz (cat f m)) (hb:(l.length + m.length) * bytes ≤ 140737488355328)
  (hK:∀ b c,K (.slice (some ⟨b,0,none⟩) (l.length + m.length) c) (.row (.slice (some ⟨b,0,none⟩) (l.length + m.length) c) e sz (cat f (l ++ m)) :: H)):hold (AppOb w0 (some (e,sz,z,bytes)) (.slice (some a) l.length l.length) x H K) ⟨0⟩:=
 app_roN hf h0 hs hx hb fun b c _=>hK b c
theorem app_oneC {α:Type} {w0:Base} {e sz bytes:Nat} {z:List Value} {s:Value} {b c0:Nat} {H A:List HO} {K:Value → List HO → Prop} {f:α → List Value} {l:List α} (u:α) (hi:HImp w0 H (.row s e sz (cat f l) :: A)) (hf:∀ a,(f a).length = sz) (h1:∀ a,∀ y ∈ f a,y.oneCell' = true)
  (hb:(l.length + 1) * bytes ≤ 140737488355328)
  (hK:∀ ad c,l.length + 1 ≤ c → K (.slice (some ad) (l.length + 1) c) (.row (.slice (some ad) (l.length + 1) c) e sz (cat f (l ++ [u])) :: A)):hold (AppOb w0 (some (e,sz,z,bytes)) s (.slice (some ⟨b,0,none⟩) 1 c0) (.row (.slice (some ⟨b,0,none⟩) 1 c0) e sz (f u) :: H) K) ⟨0⟩:=by
 refine app_atC (m:=[u]) ((HImp.tail _ _ _).trans hi) hf h1 (fun w hw=>?_) hb fun ad c h hc=>?_
 ·rw [cat_one]
  exact row_hp List.mem_cons_self hw
 ·cases ad with
  | none=>simpa using h rfl
  | some ad=>exact hK ad c hc
theorem app_one {α:Type} {w0:Base} {e sz bytes:Nat} {z:List Value} {s:Value} {b c0:Nat} {H A:List HO} {K:Value → List HO → Prop} {f:α → List Value} {l:List α} (u:α) (hi:HImp w0 H (.row s e sz (cat f l) :: A)) (hf:∀ a,(f a).length = sz) (h1:∀ a,∀ y ∈ f a,y.oneCell' = true)
  (hb:(l.length + 1) * bytes ≤ 140737488355328)
  (hK:∀ ad c,K (.slice (some ad) (l.length + 1) c) (.row (.slice (some ad) (l.length + 1) c) e sz (cat f (l ++ [u])) :: A)):hold (AppOb w0 (some (e,sz,z,bytes)) s (.slice (some ⟨b,0,none⟩) 1 c0) (.row (.slice (some ⟨b,0,none⟩) 1 c0) e sz (f u) :: H) K) ⟨0⟩:=
 app_oneC u hi hf h1 hb fun ad c _=>hK ad c
theorem i1_one (a:Int):∀ y ∈ i1 a,y.oneCell' = true:=by simp [i1,Value.oneCell']
theorem b1_one (a:Bool):∀ y ∈ b1 a,y.oneCell' = true:=by simp [b1,Value.oneCell']
theorem zeros_cat {α:Type} (f:α → List Value) (u:α) (n:Nat):zerosL n (f u) = cat f (List.replicate n u):=by
 simp [zerosL,cat,List.flatMap,List.map_replicate]
def rsl (w:World) (v:Value) (b:Nat):Prop:=v.ownBlock = some b ∧ b < w.heap.size
theorem Sl.keepR {w w':World} {X:Nat → Prop} {v:Value} {sz:Nat} {xs:List Value} (h:Sl w v sz xs) (hk:Keep X w w') (hX:∀ b,rsl w v b → ¬ X b):Sl w' v sz xs:=by
 obtain ⟨a,len,cap,rfl,hl,hc⟩:=h
 refine ⟨a,len,cap,rfl,hl,fun i x hx=>?_⟩
 obtain ⟨ad,ha,hcell⟩:=hc i x hx
 subst ha
 refine ⟨ad,rfl,?_⟩
 have hb:=World.block_lt_of_cell? w _ hcell
 rw [World.cell?_of_block (w:=w) (hk.block _ hb (hX _ ⟨own_of i,hb⟩))]
 exact hcell
theorem ld_old {w0:Base} {H:List HO} {a:Addr} {v:Value} {K:SV → Prop} (h:w0.w.cell? a = some v) (hX:¬ w0.X a.block) (hK:K (.v v)):hold (LdOb w0 H a none K) ⟨0⟩:=⟨v,.inl ⟨h,hX⟩,hK⟩
theorem cells_hp {w0:Base} {H:List HO} {b:Nat} {T:TypeId} {v:Value} (h:HO.cells b T [v] ∈ H) {w:World} (hp:Hp w0 H w):w.cell? ⟨b,0,none⟩ = some v:=by
 rw [cell_of_cells (hp.ok _ h)]
 rfl
theorem Iter.mono {P:Program} {gf n:Nat} {pre post:List Value} {arg:Nat → List Value → List HO → Prop} {A Rs Rs':Nat → Prop} {w:World} (h:Iter P gf pre post n arg A Rs w) (hs:∀ b,Rs b → Rs' b):Iter P gf pre post n arg A Rs' w:=
 fun l J C R hH hJ hA hRs=>h l J C R hH hJ hA fun b hb=>hRs b (hs b hb)
theorem Sl.own_lt {w:World} {v:Value} {sz:Nat} {xs:List Value} (h:Sl w v sz xs) (hne:0 < xs.length) {b:Nat} (hb:v.ownBlock = some b):b < w.heap.size:=by
 obtain ⟨a,len,cap,rfl,hl,hc⟩:=h
 obtain ⟨ad,ha,hc'⟩:=hc 0 xs[0] (List.getElem?_eq_getElem hne)
 subst ha
 have:=own_of (ad:=ad) (len:=len) (cap:=cap) 0
 rw [hb] at this
 cases this
 exact World.block_lt_of_cell? w _ hc'
def Got {α:Type} (x:Value) (e sz:Nat) (f:α → List Value) (l:List α) (N:List HO):Prop:=
 ∃ ad c,x = .slice ad l.length c ∧ (ad = none → l = []) ∧ (x = .slice none 0 0 ∨ HO.row x e sz (cat f l) ∈ N)
theorem Got.nil {α:Type} {e sz:Nat} {f:α → List Value} (N:List HO):Got (.slice none 0 0) e sz f [] N:=⟨none,0,rfl,fun _=>rfl,.inl rfl⟩
theorem Got.row {α:Type} {ad:Option Addr} {c e sz n:Nat} {f:α → List Value} {l:List α} {N:List HO} (hn:l.length = n) (h:HO.row (.slice ad n c) e sz (cat f l) ∈ N) (h0:ad = none → l = []):Got (.slice ad n c) e sz f l N:=by
 subst hn
 exact ⟨ad,c,rfl,h0,.inr h⟩
theorem Sl.nil (w:World) (sz:Nat):Sl w (.slice none 0 0) sz []:=⟨none,0,0,rfl,by simp,fun i x h=>by simp at h⟩
theorem Got.hp {α:Type} {x:Value} {e sz:Nat} {f:α → List Value} {l:List α} {N H:List HO} {w0:Base} {w:World} (h:Got x e sz f l N) (hm:∀ h ∈ N,h ∈ H) (hp:Hp w0 H w):Sl w x sz (cat f l):=by
 obtain ⟨ad,c,rfl,h0,h | h⟩:=h
 ·simp only [Value.slice.injEq] at h
  obtain ⟨rfl,_,rfl⟩:=h
  obtain rfl:=h0 rfl
  exact Sl.nil w sz
 ·exact row_hp (hm _ h) hp
theorem Got.shape {α:Type} {x:Value} {e sz:Nat} {f:α → List Value} {l:List α} {N:List HO} (h:Got x e sz f l N):∃ ad c,x = .slice ad l.length c:=by
 obtain ⟨ad,c,h,_⟩:=h
 exact ⟨ad,c,h⟩
theorem Got.rdv {α:Type} {x:Value} {e sz:Nat} {f:α → List Value} {l:List α} {N H:List HO} {w0:Base} (h:Got x e sz f l N) (hf:∀ a,(f a).length = sz) (hm:∀ h ∈ N,h ∈ H):Rdv w0 H x sz (cat f l):=by
 obtain ⟨ad,c,rfl,h0,h | h⟩:=h
 ·simp only [Value.slice.injEq] at h
  obtain ⟨rfl,_,rfl⟩:=h
  obtain rfl:=h0 rfl
  exact ⟨none,0,0,rfl,by simp [cat],fun i x h=>by simp [cat] at h⟩
 ·exact row_rdv (hm _ h) ⟨ad,_,c,rfl,cat_len hf l,fun h1=>by rw [h0 h1]; rfl⟩
end Go.SX

namespace Go.SX
open Go.RowKit
theorem row_write {ad:Addr} {len cap e sz o:Nat} {xs vs:List Value} (ho:o + vs.length ≤ len * sz):
  WrStep (.row (.slice (some ad) len cap) e sz xs) (ad.add o) vs (.row (.slice (some ad) len cap) e sz (xs.take o ++ vs ++ xs.drop (o + vs.length))):=by
 refine ⟨fun b=>⟨Iff.rfl,Iff.rfl⟩,fun w hk=>?_⟩
 rcases hk with ⟨h,_⟩ | ⟨b,off,len',cap',arr,hv,hb,hl,hlc,hcm,hsz,hx⟩
 ·cases h
 ·cases hv
  have hm:len * sz ≤ cap * sz:=Nat.mul_le_mul_right _ hlc
  refine ⟨b,off + o,arr,e,add_block b off o,rfl,hb,by omega,fun w' hb' _ _=>.inr ⟨b,off,len,cap,_,rfl,hb',?_,hlc,hcm,?_,?_⟩⟩
  ·simp only [List.length_append,List.length_take,List.length_drop,hl]
   omega
  ·simp only [List.size_toArray,List.length_append,List.length_take,List.length_drop,Array.length_toList]
   omega
  ·simp only []
   have hal:arr.toList.length = arr.size:=Array.length_toList
   have e1:arr.toList.take (off + o) = arr.toList.take off ++ (arr.toList.drop off).take o:=by
    rw [← List.take_append_drop off (arr.toList.take (off + o)),List.take_take,List.drop_take]
    congr 2 <;> omega
   have e2:(arr.toList.drop off).take o = xs.take o:=by
    rw [← hx,List.take_take]
    congr 1
    omega
   have e3:arr.toList.drop (off + o + vs.length) = (arr.toList.drop off).drop (o + vs.length):=by rw [List.drop_drop,Nat.add_assoc]
   rw [e1,e2,e3,List.append_assoc,List.append_assoc,List.drop_append_of_le_length (by simp; omega),List.drop_of_length_le (by simp; omega),List.nil_append]
   have hxo:(xs.take o).length = o:=by rw [List.length_take,hl]; omega
   rw [← List.append_assoc,List.take_append]
   have hlen:(xs.take o ++ vs).length = o + vs.length:=by rw [List.length_append,hxo]
   rw [hlen,List.take_of_length_le (by omega)]
   congr 1
   rw [← hx,List.drop_take]
theorem wr_row {H A B:List HO} {ad:Addr} {len cap e sz o:Nat} {xs vs:List Value} {K:List HO → Prop} (hH:H = A ++ .row (.slice (some ad) len cap) e sz xs :: B) (ho:o + vs.length ≤ len * sz)
  (hK:K (A ++ .row (.slice (some ad) len cap) e sz (xs.take o ++ vs ++ xs.drop (o + vs.length)) :: B)):hold (WrOb H (ad.add o) vs K) ⟨0⟩:=
 ⟨A,_,B,_,hH,row_write ho,hK⟩
theorem wr_at {α:Type} {H A B:List HO} {ad:Addr} {len cap e sz k:Nat} {f:α → List Value} {l:List α} {u:α} {K:List HO → Prop} (hH:H = A ++ .row (.slice (some ad) len cap) e sz (cat f l) :: B) (hf:∀ a,(f a).length = sz) (hl:l.length = len) (hk:k < l.length)
  (hK:K (A ++ .row (.slice (some ad) len cap) e sz (cat f (l.set k u)) :: B)):hold (WrOb H (ad.add (k * sz)) (f u) K) ⟨0⟩:=by
 refine wr_row hH ?_ ?_
 ·rw [hf,← hl]
  have:(k + 1) * sz ≤ l.length * sz:=Nat.mul_le_mul_right _ hk
  rw [Nat.add_mul] at this
  omega
 ·rw [cat_set hf l k u hk]
  exact hK
theorem HImp.pick {w0:Base} {H:List HO} {h:HO} (hm:h ∈ H):HImp w0 H [h]:=HImp.sub (List.singleton_sublist.2 hm)
theorem amid {A B C:Prop} (h:A ∧ B ∧ C):A ∧ C:=⟨h.1,h.2.2⟩
theorem HImp.app (w0:Base) (N H:List HO):HImp w0 (N ++ H) H:=HImp.sub (List.sublist_append_right _ _)
end Go.SX

namespace Go.SX
open Go.RowKit
theorem cat_set_cell {α:Type} {f:α → List Value} {n o:Nat} (h:∀ a,(f a).length = n) {x:Value} {u u':α} (hu':f u' = (f u).set o x) (ho:o < n):∀ {l:List α} {k:Nat},l[k]? = some u → (cat f l).set (k * n + o) x = cat f (l.set k u')
 | [],k,hu=>by simp at hu
 | y :: r,0,hu=>by
  simp only [List.getElem?_cons_zero,Option.some.injEq] at hu
  subst hu
  rw [cat_cons,Nat.zero_mul,Nat.zero_add,List.set_append_left _ _ (by rw [h]; exact ho),List.set_cons_zero,cat_cons,hu']
 | y :: r,k + 1,hu=>by
  simp only [List.getElem?_cons_succ] at hu
  have e:(k + 1) * n + o = (f y).length + (k * n + o):=by rw [h,Nat.add_mul]; omega
  rw [cat_cons,e,List.set_append_right _ _ (by omega),Nat.add_sub_cancel_left,List.set_cons_succ,cat_cons,cat_set_cell h hu' ho hu]
theorem set_parts {α:Type} {l:List α} {p:Nat} {x:α} (h:p < l.length):l.take p ++ [x] ++ l.drop (p + 1) = l.set p x:=by
 rw [List.set_eq_take_append_cons_drop,if_pos h]
 simp
end Go.SX

namespace Go.SX
open Go.RowKit
theorem ints_get (l:List Int) (i:Nat):(ints l)[i]? = l[i]?.map fun n=>Value.int .i64 n:=by
 induction l generalizing i with
 | nil=>simp [ints,cat]
 | cons x l ih=>
  cases i with
  | zero=>simp [ints,cat_cons,i1]
  | succ i=>simpa [ints,cat_cons,i1] using ih i
end Go.SX

namespace Go.SX
open Go.RowKit
def intAr (P:Program) (T:TypeId) (n:Nat):Bool:=
 match P.underlying T with
 | some (.array m e)=>m == n && (match P.info? e with | some _=>true | none=>false) && P.cellsOf e == 1 && (match ldT P e with | some none=>true | _=>false) && (match P.underlying e with | some (.int .i64)=>true | _=>false) && !P.eqGuardType P.depth T
 | _=>false
theorem eqItems_ints {P:Program} {w:World} (d:Nat) {e:TypeId} (hk:ldT P e = some none) (hu:P.underlying e = some (.int .i64)) (xs ys:List Int) (hl:xs.length = ys.length):∀ (k i:Nat),i + k = xs.length →
  (Op.eqItems (d + 1) e 1 (ints xs).toArray (ints ys).toArray (List.range' i k)).run P w = .ok (decide (xs.drop i = ys.drop i)) w
 | 0,i,hi=>by
  rw [List.drop_of_length_le (by omega),List.drop_of_length_le (by omega)]
  simp [Op.eqItems]
 | k + 1,i,hi=>by
  have h1:i < xs.length:=by omega
  have h2:i < ys.length:=by omega
  have px:(part e (ints xs).toArray (i * 1)).run P w = .ok (.int .i64 xs[i]) w:=by
   obtain ⟨v,hv,hr⟩:=part_run (P:=P) (e:=e) hk (cs:=(ints xs).toArray) (o:=i * 1) (K:=fun s=>s = .v (.int .i64 xs[i])) ⟨.int .i64 xs[i],by simp [ints_get,h1],rfl⟩
   cases hv
   exact hr w
  have py:(part e (ints ys).toArray (i * 1)).run P w = .ok (.int .i64 ys[i]) w:=by
   obtain ⟨v,hv,hr⟩:=part_run (P:=P) (e:=e) hk (cs:=(ints ys).toArray) (o:=i * 1) (K:=fun s=>s = .v (.int .i64 ys[i])) ⟨.int .i64 ys[i],by simp [ints_get,h2],rfl⟩
   cases hv
   exact hr w
  rw [List.range'_succ]
  simp only [Op.eqItems,Sem.run_bind,px,py,Result.andThen_ok,run_equalIn_int w d e .i64 .i64 _ _ hu,Sem.run_ite]
  have hx:xs.drop i = xs[i] :: xs.drop (i + 1):=List.drop_eq_getElem_cons h1
  have hy:ys.drop i = ys[i] :: ys.drop (i + 1):=List.drop_eq_getElem_cons h2
  have hd:decide (xs.drop i = ys.drop i) = (decide (xs[i] = ys[i]) && decide (xs.drop (i + 1) = ys.drop (i + 1))):=by
   rw [Bool.eq_iff_iff]
   simp only [decide_eq_true_eq,Bool.and_eq_true,hx,hy,List.cons.injEq]
  rw [hd]
  by_cases he:xs[i] = ys[i]
  ·simp only [he,beq_self_eq_true,Bool.not_true,Bool.false_eq_true,if_false]
   rw [eqItems_ints d hk hu xs ys hl k (i + 1) (by omega)]
   simp
  ·have:(xs[i] == ys[i]) = false:=by simp [he]
   simp [this,he]
theorem eqArr_ints {P:Program} {T:TypeId} {n:Nat} (h:intAr P T n = true) {xs ys:List Int} (hx:xs.length = n) (hy:ys.length = n):EqAgg P T (ints xs) (ints ys) (decide (xs = ys)):=by
 unfold intAr at h
 split at h
 ·rename_i m e hu
  simp only [Bool.and_eq_true,beq_iff_eq,Bool.not_eq_true'] at h
  obtain ⟨⟨⟨⟨⟨rfl,hi⟩,hc⟩,hk⟩,hei⟩,hg⟩:=h
  have hi':∃ i,P.info? e = some i:=by
   revert hi
   cases P.info? e with
   | none=>simp
   | some i=>simp
  obtain ⟨i,hi'⟩:=hi'
  have hk':ldT P e = some none:=by
   revert hk
   cases ldT P e with
   | none=>simp
   | some k=>cases k <;> simp
  have hu':P.underlying e = some (.int .i64):=by
   revert hei
   split <;> simp_all
  intro w
  refine ⟨?_,?_⟩
  ·have e1:Op.maxDepth = 9998 + 1 + 1:=rfl
   unfold Op.equal
   rw [e1,run_equalIn_array w (9998 + 1) _ _ hu hi',hc,List.range_eq_range',eqItems_ints 9998 hk' hu' xs ys (by omega) m 0 (by omega)]
   simp
  ·unfold eqGuard
   simp [hg]
 ·cases h
end Go.SX

namespace Go.SX
open Go.RowKit Go.ChangeShapes
inductive Kd where
 | int (k:IntKind)
 | bool
 | slice (e:TypeId)
def flatFs (P:Program) (fl:TypeId → Option (List Kd)):List Field → Nat → Option (List Kd)
 | [],_=>some []
 | f :: r,off=>
  if f.offset = off then
   match fl f.type with
   | some ks=>if ks.length = P.cellsOf f.type then (flatFs P fl r (off + ks.length)).map (ks ++ ·) else none
   | none=>none
  else none
def flat (P:Program):Nat → TypeId → Option (List Kd)
 | 0,_=>none
 | n + 1,t=>
  match P.underlying t with
  | some (.int k)=>some [.int k]
  | some .bool=>some [.bool]
  | some (.slice e)=>some [.slice e]
  | some (.struct fs)=>
   match flatFs P (flat P n) fs.toList 0 with
   | some ks=>if ks.length = P.cellsOf t then some ks else none
   | none=>none
  | _=>none
inductive Lvs (P:Program) (w:World):List Kd → List Value → Prop where
 | nil:Lvs P w [] []
 | int {k:IntKind} {n:Int} {ks:List Kd} {vs:List Value} (h:(Lit.int k n).wf = true) (r:Lvs P w ks vs):Lvs P w (.int k :: ks) (.int k n :: vs)
 | bool {b:Bool} {ks:List Kd} {vs:List Value} (r:Lvs P w ks vs):Lvs P w (.bool :: ks) (.bool b :: vs)
 | slice {e:TypeId} {a:Option Addr} {len cap:Nat} (xss:List (List Value)) {ks:List Kd} {vs:List Value} (hl:xss.length = len) (hc:len ≤ cap) (hm:cap ≤ maxLen) (hs:Sl w (.slice a len cap) (P.cellsOf e) xss.flatten)
   (h1:∀ xs ∈ xss,xs.length = P.cellsOf e) (hx:∀ xs ∈ xss,∀ m es,flat P m e = some es → Lvs P w es xs) (r:Lvs P w ks vs):Lvs P w (.slice e :: ks) (.slice a len cap :: vs)
theorem Lvs.append {P:Program} {w:World} {ks ks':List Kd} {vs vs':List Value} (h:Lvs P w ks vs) (h':Lvs P w ks' vs'):Lvs P w (ks ++ ks') (vs ++ vs'):=by
 induction h with
 | nil=>exact h'
 | int hw _ ih=>exact .int hw ih
 | bool _ ih=>exact .bool ih
 | slice xss hl hc hm hs h1 hx _ _ ih=>exact .slice xss hl hc hm hs h1 hx ih
theorem mapM_get {α β:Type} {f:α → Option β}:∀ {l:List α} {r:List β},l.mapM f = some r → r.length = l.length ∧ ∀ (i:Nat) (x:α),l[i]? = some x → f x = r[i]?
 | [],r,h=>by
  simp at h
  subst h
  exact ⟨rfl,fun i x hx=>by simp at hx⟩
 | a :: l,r,h=>by
  simp only [List.mapM_cons,Option.pure_def,Option.bind_eq_bind,Option.bind_eq_some_iff,Option.some.injEq] at h
  obtain ⟨y,hy,ys,hys,rfl⟩:=h
  obtain ⟨hl,hg⟩:=mapM_get hys
  refine ⟨by simp [hl],fun i x hx=>?_⟩
  cases i with
  | zero=>
   simp at hx
   subst hx
   simpa using hy
  | succ i=>
   simp at hx
   simpa using hg i x hx
theorem cells_get {w:World} {base n:Nat} {a:Addr} {cs:List Value} (h:w.cells? base a n = some cs):cs.length = n ∧ ∀ i x,cs[i]? = some x → w.cell? (a.add i) = some x:=by
 unfold World.cells? at h
 split at h
 ·obtain ⟨hl,hg⟩:=mapM_get h
  simp at hl
  refine ⟨hl,fun i x hx=>?_⟩
  have hi:i < n:=by have:=(List.getElem?_eq_some_iff.1 hx).1; omega
  have:=hg i i (by simp [hi])
  rw [this,hx]
 ·cases h
theorem flatFs_leaves {P:Program} {w:World} {fl:TypeId → Option (List Kd)} {T:TypeId → List Value → Prop} (hT:∀ t cs ks,T t cs → fl t = some ks → Lvs P w ks cs):∀ (fs:List Field) (off:Nat) (ks:List Kd) (cs:List Value),flatFs P fl fs off = some ks →
  cs.length = off + ks.length → (∀ f ∈ fs,T f.type ((cs.drop f.offset).take (P.cellsOf f.type))) → Lvs P w ks (cs.drop off)
 | [],off,ks,cs,h,hl,_=>by
  simp [flatFs] at h
  subst h
  rw [List.drop_of_length_le (by simp at hl; omega)]
  exact .nil
 | f :: r,off,ks,cs,h,hl,hT'=>by
  simp only [flatFs] at h
  split at h
  ·rename_i ho
   split at h
   ·rename_i ks1 hk
    split at h
    ·rename_i hc
     simp only [Option.map_eq_some_iff] at h
     obtain ⟨ks2,h2,rfl⟩:=h
     have h1:=hT _ _ _ (hT' f List.mem_cons_self) hk
     have hr:=flatFs_leaves hT r (off + ks1.length) ks2 cs h2 (by simp at hl; omega) fun g hg=>hT' g (List.mem_cons_of_mem _ hg)
     rw [ho,← hc] at h1
     have:=h1.append hr
     rwa [← List.drop_drop,List.take_append_drop] at this
    ·cases h
   ·cases h
  ·cases h
theorem leaves_of_trod {H:Type} {enc:TypeId × Value → H} {P:Program} {w:World} {sp:Nat → Bool} {held:Bool}:∀ (fuel:Nat) (t:TypeId) (cs:List Value) (x:DataW H × List MemPlace),DataW.trod enc P w 0 sp held fuel t cs = some x → ∀ m ks,flat P m t = some ks → Lvs P w ks cs
 | 0,t,cs,x,h,_,_,_=>by simp [DataW.trod] at h
 | fuel + 1,t,cs,x,h,m,ks,hk=>by
  cases m with
  | zero=>simp [flat] at hk
  | succ m=>
  simp only [flat] at hk
  cases hu:P.underlying t with
  | none=>simp [hu] at hk
  | some d=>
   rw [hu] at hk
   cases d <;> simp only [] at hk <;> try contradiction
   case bool=>
    cases hk
    obtain ⟨b,rfl,_⟩:=DataW.trod_bool hu h
    exact .bool .nil
   case int k=>
    cases hk
    obtain ⟨n,rfl,_,hw⟩:=DataW.trod_int hu h
    exact .int hw .nil
   case slice e=>
    cases hk
    rcases DataW.trod_slice hu h with ⟨rfl,_⟩ | ⟨a,len,cap,elems,rest,n,hn,rfl,_,_,hl,hm,hlen,hel,_,_⟩
    ·exact .slice [] rfl (Nat.le_refl _) (by decide) (Sl.nil w _) (by simp) (by simp) .nil
    ·cases hn
     have hel':∀ i,i < len → ∃ c,w.cells? 0 (a.add (i * P.cellsOf e)) (P.cellsOf e) = some c ∧ ∃ y,DataW.trod enc P w 0 sp held fuel e c = some y:=fun i hi=>by
      have:=hel i hi
      rw [List.getElem?_eq_getElem (by omega)] at this
      obtain ⟨c,hc,hy⟩:=Option.bind_eq_some_iff.1 this
      exact ⟨c,hc,_,hy⟩
     let f:Nat → List Value:=fun i=>(w.cells? 0 (a.add (i * P.cellsOf e)) (P.cellsOf e)).getD []
     have hf:∀ i,i < len → w.cells? 0 (a.add (i * P.cellsOf e)) (P.cellsOf e) = some (f i):=fun i hi=>by
      obtain ⟨c,hc,_⟩:=hel' i hi
      simp [f,hc]
     have hmem:∀ xs ∈ (List.range len).map f,∃ i,i < len ∧ xs = f i:=fun xs hxs=>by
      obtain ⟨i,hi,rfl⟩:=List.mem_map.1 hxs
      exact ⟨i,by simpa using hi,rfl⟩
     have h1:∀ xs ∈ (List.range len).map f,xs.length = P.cellsOf e:=fun xs hxs=>by
      obtain ⟨i,hi,rfl⟩:=hmem xs hxs
      exact (cells_get (hf i hi)).1
     have key:∀ m,m ≤ len → ((List.range m).map f).flatten.length = m * P.cellsOf e ∧ ∀ i x,(((List.range m).map f).flatten)[i]? = some x → w.cell? (a.add i) = some x:=by
      intro m
      induction m with
      | zero=>intro _; simp
      | succ m ih=>
       intro hle
       obtain ⟨ih1,ih2⟩:=ih (by omega)
       have hc:=cells_get (hf m (by omega))
       rw [List.range_succ,List.map_append,List.flatten_append]
       simp only [List.map_cons,List.map_nil,List.flatten_cons,List.flatten_nil,List.append_nil]
       refine ⟨by rw [List.length_append,ih1,hc.1,Nat.add_mul]; omega,fun i x hx=>?_⟩
       by_cases hi:i < m * P.cellsOf e
       ·rw [List.getElem?_append_left (by omega)] at hx
        exact ih2 i x hx
       ·rw [List.getElem?_append_right (by omega),ih1] at hx
        have:=hc.2 _ x hx
        rwa [add_add,show m * P.cellsOf e + (i - m * P.cellsOf e) = i by omega] at this
     have hk:=key len (Nat.le_refl _)
     refine .slice ((List.range len).map f) (by simp) hl hm ⟨some a,len,cap,rfl,hk.1,fun i x hx=>⟨a,rfl,hk.2 i x hx⟩⟩ h1 (fun xs hxs m es hes=>?_) .nil
     obtain ⟨i,hi,rfl⟩:=hmem xs hxs
     obtain ⟨c,hc,y,hy⟩:=hel' i hi
     have:f i = c:=by simp [f,hc]
     rw [this]
     exact leaves_of_trod fuel e c y hy m es hes
   case struct fs=>
    split at hk
    ·rename_i ks' hfs
     split at hk
     ·rename_i hkl
      cases hk
      obtain ⟨xs,n,hn,_,hlen,hxl,hx⟩:=DataW.trod_struct hu h
      cases hn
      have:=flatFs_leaves (P:=P) (w:=w) (T:=fun t cs=>∃ y,DataW.trod enc P w 0 sp held fuel t cs = some y) (fun t cs ks ⟨y,hy⟩ hk=>leaves_of_trod fuel t cs y hy m ks hk) fs.toList 0 ks cs hfs (by omega) fun f hf=>by
       obtain ⟨i,hi,rfl⟩:=List.mem_iff_getElem.1 hf
       have hi':i < fs.size:=by simpa using hi
       have:=hx i fs[i] (by simp [hi'])
       rw [List.getElem?_eq_getElem (by omega)] at this
       exact ⟨_,by simpa using this⟩
      simpa using this
     ·cases hk
    ·cases hk
theorem lvs_of_Trod {H:Type} {enc:TypeId × Value → H} {P:Program} {w:World} {sp:Nat → Bool} {held:Bool} {t:TypeId} {v:Value} {d:DataW H} {ps:List MemPlace} (h:DataW.Trod enc P w 0 sp held t v d ps) (m:Nat) {ks:List Kd} (hk:flat P m t = some ks):Lvs P w ks v.cells.toList:=by
 obtain ⟨fuel,h⟩:=h
 exact leaves_of_trod fuel t _ _ h m ks hk
theorem cat_of {α:Type} {f:α → List Value}:∀ {xss:List (List Value)},(∀ xs ∈ xss,∃ u,xs = f u) → ∃ l:List α,xss.flatten = cat f l ∧ l.length = xss.length
 | [],_=>⟨[],rfl,rfl⟩
 | xs :: xss,h=>by
  obtain ⟨u,rfl⟩:=h xs List.mem_cons_self
  obtain ⟨l,hl,hn⟩:=cat_of fun ys hy=>h ys (List.mem_cons_of_mem _ hy)
  exact ⟨u :: l,by rw [List.flatten_cons,hl,cat_cons],by simp [hn]⟩
theorem keep_but {W W':World} (h:Keep (fun _=>False) W W') (may:MemPlace → Prop):W.keptBut W' may:=by
 refine ⟨h.os,h.output,fun i hi=>?_⟩
 rw [h.block i hi id]
 rw [Array.getElem?_eq_getElem hi]
 cases W.heap[i] <;> simp
theorem trodAll_stays {H:Type} {enc:TypeId × Value → H} {P:Program} (hl:laidOutB P = true) {W W':World} {sp:Nat → Bool} (hb:Keep (fun _=>False) W W'):∀ (ts:List TypeId) (vs:List Value) (ds:List (DataW H)) (ps:List MemPlace),
  ts.all (fun t=>P.readableRec t && decide (t < P.types.size)) = true → DataW.TrodAll enc P W 0 (fun _=>true) true ts vs ds ps → (∀ x ∈ ps,x.block < W.heap.size) → (∀ x ∈ ps,sp x.block = true) → DataW.TrodAll enc P W' 0 sp true ts vs ds ps
 | [],[],[],ps,_,h,_,_=>h
 | [],[],_ :: _,_,_,h,_,_=>h
 | [],_ :: _,_,_,_,h,_,_=>h
 | _ :: _,[],_,_,_,h,_,_=>h
 | _ :: _,_ :: _,[],_,_,h,_,_=>h
 | t :: ts,v :: vs,d :: ds,ps,ha,h,hlt,hsp=>by
  obtain ⟨p,q,h1,h2,rfl⟩:=h
  simp only [List.all_cons,Bool.and_eq_true,decide_eq_true_eq] at ha
  refine ⟨p,q,?_,trodAll_stays hl hb ts vs ds q (by simpa using ha.2) h2 (fun x hx=>hlt x (by simp [hx])) fun x hx=>hsp x (by simp [hx]),rfl⟩
  exact WideElems.Trod_stays hl ha.1.1 ha.1.2 h1 (fun x hx=>hb.below.same (hlt x (by simp [hx]))) fun x hx=>hsp x (by simp [hx])
theorem law_post {H:Type} {enc:TypeId × Value → H} {P:Program} {f:Func} {s:ChangeSpec} {W W':World} {args:Array Value} {ds gs:List (DataW H)} {before:List MemPlace} {b:TypeId} (hl:laidOutB P = true)
  (hts:f.params.toList.all (fun t=>P.readableRec t && decide (t < P.types.size)) = true) (hr:f.resultTypes = #[b]) (hb:P.underlying b = some .bool) (hv:s.vars = [])
  (hW:DataW.Whole enc P f.params.toList s.vars false W args.toList ds gs before) (h1:(s.fn H (ds ++ gs)).results = [.lit (.bool true)]) (h2:(s.fn H (ds ++ gs)).args = ds) (h3:(s.fn H (ds ++ gs)).vars = []) (hk:Keep (fun _=>False) W W'):
  s.post enc P f false true false false W args (.bool true) W':=by
 have hlt:=hW.lt
 obtain ⟨p,q,hA,hV,rfl,hz,hn⟩:=id hW
 rw [hv] at hV
 have hq:q = []:=by
  cases gs with
  | nil=>exact hV
  | cons g gs=>exact hV.elim
 subst hq
 rw [List.append_nil] at hlt hW
 refine ⟨ds,gs,p,[],p,[],hW,?_,?_,?_,keep_but hk _,fun h=>by cases h⟩
 ·rw [h1,hr]
  exact ⟨[],[],shut_bool hb true,rfl,rfl⟩
 ·rw [h2]
  exact trodAll_stays hl hk _ _ _ _ hts hA (fun x hx=>hlt x hx) fun x hx=>by simpa using hlt x hx
 ·rw [h3,hv]
  rfl
end Go.SX

namespace Go.SX
open Go.RowKit
theorem ld_cell {w0:Base} {H:List HO} {b o:Nat} {T:TypeId} {cs:List Value} {v:Value} {K:SV → Prop} (h:HO.cells b T cs ∈ H) (hv:cs[o]? = some v) (hK:K (.v v)):hold (LdOb w0 H ⟨b,o,none⟩ none K) ⟨0⟩:=
 ⟨v,.inr ⟨_,h,fun w hw=>by rw [cell_of_cells hw]; simpa using hv⟩,hK⟩
theorem ld_cella {w0:Base} {H:List HO} {b o:Nat} {T:TypeId} {cs:List Value} {v:Value} {K:SV → Prop} (h:HO.cells b T cs ∈ H) (hv:cs[o]? = some v) (hK:K (.v v)):hold (LdOb w0 H ((⟨b,0,none⟩:Addr).add o) none K) ⟨0⟩:=by
 rw [add_block,Nat.zero_add]
 exact ld_cell h hv hK
theorem ld_cells {w0:Base} {H:List HO} {b o n:Nat} {T:TypeId} {cs:List Value} (vs:List Value) {K:SV → Prop} (h:HO.cells b T cs ∈ H) (hv:(cs.drop o).take n = vs) (hl:vs.length = n) (hK:K (.v (.agg vs.toArray))):hold (LdOb w0 H ⟨b,o,none⟩ (some n) K) ⟨0⟩:=by
 refine ⟨vs,hl,fun i v hi=>?_,hK⟩
 refine .inr ⟨_,h,fun w hw=>?_⟩
 rw [add_block,cell_of_cells hw]
 subst hv
 rw [List.getElem?_take] at hi
 split at hi
 ·simpa using hi
 ·cases hi
theorem cells_write {b o:Nat} {T:TypeId} {cs vs:List Value} (ho:o + vs.length ≤ cs.length):
  WrStep (.cells b T cs) ⟨b,o,none⟩ vs (.cells b T (cs.take o ++ vs ++ cs.drop (o + vs.length))):=by
 refine ⟨fun c=>⟨Iff.rfl,Iff.rfl⟩,fun w hw=>⟨b,o,cs.toArray,T,rfl,rfl,hw,by simpa using ho,fun w' hw' _ _=>?_⟩⟩
 exact hw'
theorem wr_cell {H A B:List HO} {b o:Nat} {T:TypeId} {cs vs:List Value} {K:List HO → Prop} (hH:H = A ++ .cells b T cs :: B) (ho:o + vs.length ≤ cs.length)
  (hK:K (A ++ .cells b T (cs.take o ++ vs ++ cs.drop (o + vs.length)) :: B)):hold (WrOb H ⟨b,o,none⟩ vs K) ⟨0⟩:=
 ⟨A,_,B,_,hH,cells_write ho,hK⟩
theorem wr_cella {H A B:List HO} {b o:Nat} {T:TypeId} {cs vs:List Value} {K:List HO → Prop} (hH:H = A ++ .cells b T cs :: B) (ho:o + vs.length ≤ cs.length)
  (hK:K (A ++ .cells b T (cs.take o ++ vs ++ cs.drop (o + vs.length)) :: B)):hold (WrOb H ((⟨b,0,none⟩:Addr).add o) vs K) ⟨0⟩:=by
 rw [add_block,Nat.zero_add]
 exact wr_cell hH ho hK
theorem Got.mono {α:Type} {x:Value} {e sz:Nat} {f:α → List Value} {l:List α} {N N':List HO} (h:Got x e sz f l N) (hm:∀ h ∈ N,h ∈ N'):Got x e sz f l N':=by
 obtain ⟨ad,c,h1,h2,h3⟩:=h
 exact ⟨ad,c,h1,h2,h3.imp id fun h=>hm _ h⟩
end Go.SX

namespace Go.SX
open Go.RowKit
theorem Hp.write {w0:Base} {A B:List HO} {hh h':HO} {w:World} (hp:Hp w0 (A ++ hh :: B) w) {b:Nat} {cs:List Value} {T:TypeId} {arr:Array Value}
  (hfp:∀ b,(h'.fp b ↔ hh.fp b) ∧ (h'.fpx b ↔ hh.fpx b)) (hb:hh.fpx b) (hc:w.heap[b]? = some (.cells arr T (0,0)))
  (hok:∀ w',w'.heap[b]? = some (.cells cs.toArray T (0,0)) → (∀ c,hh.fp c → c ≠ b → w'.heap[c]? = w.heap[c]?) → w.heap.size ≤ w'.heap.size → h'.ok w'):
  Hp w0 (A ++ h' :: B) (w.setRow b cs.toArray) ∧ (∀ g ∈ A ++ h' :: B,∀ c,(g.fp c → fps (A ++ hh :: B) c) ∧ (g.fpx c → fpsx (A ++ hh :: B) c)):=by
 have hk:=Keep.setRow (w:=w) (b:=b) cs.toArray
 have hnd:=List.pairwise_append.1 hp.nd
 have hnd2:=List.pairwise_cons.1 hnd.2.1
 have hsame:∀ g ∈ A ++ B,SameOn g.fp w (w.setRow b cs.toArray):=by
  intro g hg
  refine hk.sameOn (fun c hc=>HO.lt (hp.ok g ?_) hc) fun c hgc e=>?_
  ·rcases List.mem_append.1 hg with hg | hg <;> simp [hg]
  ·subst e
   rcases List.mem_append.1 hg with hg | hg
   ·exact (hnd.2.2 g hg hh (by simp) _ hgc (HO.fp_of_fpx hb)).2 hb
   ·exact (hnd2.1 g hg _ (HO.fp_of_fpx hb) hgc).1 hb
 refine ⟨⟨hk.into hp.ext (fun c e=>e ▸ hp.old hh (by simp) _ hb),fun g hg=>?_,fun g hg c hc=>?_,?_⟩,fun g hg c=>⟨fun hc=>?_,fun hc=>?_⟩⟩
 ·rcases List.mem_append.1 hg with hg | hg
  ·exact HO.stable (hp.ok g (by simp [hg])) (hsame g (by simp [hg]))
  ·rcases List.mem_cons.1 hg with rfl | hg
   ·exact hok _ (setRow_heap w _ _ _ _ _ hc) (fun c _ hne=>setRow_other w b c _ hne) (by simp [World.setRow])
   ·exact HO.stable (hp.ok g (by simp [hg])) (hsame g (by simp [hg]))
 ·rcases List.mem_append.1 hg with hg | hg
  ·exact hp.old g (by simp [hg]) c hc
  ·rcases List.mem_cons.1 hg with rfl | hg
   ·exact hp.old hh (by simp) c ((hfp c).2.1 hc)
   ·exact hp.old g (by simp [hg]) c hc
 ·refine List.pairwise_append.2 ⟨hnd.1,List.pairwise_cons.2 ⟨fun g hg c hc hc'=>⟨fun hx=>(hnd2.1 g hg c ((hfp c).1.1 hc) hc').1 ((hfp c).2.1 hx),(hnd2.1 g hg c ((hfp c).1.1 hc) hc').2⟩,hnd2.2⟩,fun g hg g' hg' c hc hc'=>?_⟩
  rcases List.mem_cons.1 hg' with rfl | hg'
  ·exact ⟨(hnd.2.2 g hg hh (by simp) c hc ((hfp c).1.1 hc')).1,fun hx=>(hnd.2.2 g hg hh (by simp) c hc ((hfp c).1.1 hc')).2 ((hfp c).2.1 hx)⟩
  ·exact hnd.2.2 g hg g' (by simp [hg']) c hc hc'
 ·rcases List.mem_append.1 hg with hg | hg
  ·exact ⟨g,by simp [hg],hc⟩
  ·rcases List.mem_cons.1 hg with rfl | hg
   ·exact ⟨hh,by simp,(hfp c).1.1 hc⟩
   ·exact ⟨g,by simp [hg],hc⟩
 ·rcases List.mem_append.1 hg with hg | hg
  ·exact ⟨g,by simp [hg],hc⟩
  ·rcases List.mem_cons.1 hg with rfl | hg
   ·exact ⟨hh,by simp,(hfp c).2.1 hc⟩
   ·exact ⟨g,by simp [hg],hc⟩
theorem copy_row {P:Program} {w0:Base} {T T' e bytes:TypeId} {z:List Value} (hT:elT P T = some (e,1,z,bytes)) {H A B:List HO} {ad:Addr} {len cap o dl dc sl sc:Nat} {sa:Option Addr} {xs:List Value} (cs:List Value) {K:Value → List HO → Prop}
  (hH:H = A ++ .row (.slice (some ad) len cap) e 1 xs :: B) (ho:o + dl ≤ len) (hn:cs.length = Nat.min sl dl) (hx:∀ w,Hp w0 H w → ∃ ys,Sl w (.slice sa sl sc) 1 ys ∧ cs = ys.take (Nat.min sl dl)) (h1:∀ v ∈ cs,v.oneCell' = true)
  (hK:K (.int .i64 (cs.length:Nat)) (A ++ .row (.slice (some ad) len cap) e 1 (xs.take o ++ cs ++ xs.drop (o + cs.length)) :: B)):hold (CopyOb P w0 T T' (.slice (some (ad.add o)) dl dc) (.slice sa sl sc) H K) ⟨0⟩:=by
 intro w ty hp
 obtain ⟨ys,hys,hcs⟩:=hx w hp
 subst hH
 obtain ⟨i,zv,hu,hi,hz,hsz1,_,_,_,_,_⟩:=elT_some hT
 have hs1:(P.info? e).map (·.size) = some 1:=by rw [hi]; simp [hsz1]
 have hle:cs.length ≤ dl:=by rw [hn]; exact Nat.min_le_right _ _
 have hw:=row_write (ad:=ad) (len:=len) (cap:=cap) (e:=e) (sz:=1) (o:=o) (xs:=xs) (vs:=cs) (by omega)
 obtain ⟨hfp,hw⟩:=hw
 obtain ⟨b,off,arr,T2,hadd,hb,hc,hfit,hok⟩:=hw w (hp.ok _ (by simp))
 by_cases h0:cs.length = 0
 ·obtain rfl:cs = []:=List.eq_nil_of_length_eq_zero h0
  refine ⟨_,fun _=>False,_,w,run_copy_none (P:=P) w T T' ty e _ _ dl dc sl sc hu hs1 (by simpa using hn.symm),Keep.refl _ _,fun _ h=>h.elim,?_,?_,hK⟩
  ·simpa using hp
  ·intro g hg c
   simp only [List.append_nil,List.length_nil,Nat.add_zero,List.take_append_drop] at hg
   exact ⟨fun h=>.inl ⟨g,hg,h⟩,fun h=>.inl ⟨g,hg,h⟩⟩
 ·obtain ⟨a',len',cap',hv,hyl,hyc⟩:=hys
  cases hv
  have hy0:0 < ys.length:=by rw [hcs,List.length_take] at h0; omega
  obtain ⟨sad,hsad,_⟩:=hyc 0 _ (List.getElem?_eq_getElem hy0)
  subst hsad
  have hsrc:∀ j v,cs[j]? = some v → w.cell? (sad.add j) = some v:=by
   intro j v hj
   rw [hcs,List.getElem?_take] at hj
   split at hj
   ·obtain ⟨ad',had',hcell⟩:=hyc j v hj
    cases had'
    exact hcell
   ·cases hj
  have hrun:=run_copy_row (P:=P) w T T' ty e b off dl dc sad sl sc arr T2 cs hu hs1 hc hn hsrc hfit h1
  rw [← hadd] at hrun
  have hwr:=Hp.write (cs:=arr.toList.take off ++ cs ++ arr.toList.drop (off + cs.length)) hp hfp hb hc hok
  refine ⟨_,fun c=>c = b,_,_,hrun,Keep.setRow _,fun c e=>e ▸ ⟨_,by simp,hb⟩,hwr.1,fun g hg c=>⟨fun h=>.inl ((hwr.2 g hg c).1 h),fun h=>.inl ((hwr.2 g hg c).2 h)⟩,hK⟩
theorem wr_f1 {α:Type} {H A B:List HO} {ad:Addr} {len cap e n k o:Nat} {f:α → List Value} {l:List α} {u:α} (u':α) {x:Value} {K:List HO → Prop} (hH:H = A ++ .row (.slice (some ad) len cap) e n (cat f l) :: B) (hf:∀ a,(f a).length = n) (hl:l.length = len) (hu:l[k]? = some u)
  (hu':f u' = (f u).set o x) (ho:o < n) (hK:K (A ++ .row (.slice (some ad) len cap) e n (cat f (l.set k u')) :: B)):hold (WrOb H ((ad.add (k * n)).add o) [x] K) ⟨0⟩:=by
 have hk:k + 1 ≤ l.length:=(List.getElem?_eq_some_iff.1 hu).1
 have hb:(k + 1) * n ≤ l.length * n:=Nat.mul_le_mul_right _ hk
 rw [Nat.add_mul] at hb
 have:=wr_row (o:=k * n + o) (vs:=[x]) (K:=K) hH (by rw [← hl]; simp only [List.length_cons,List.length_nil]; omega) (by
  simp only [List.length_cons,List.length_nil]
  rw [set_parts (by rw [cat_len hf]; omega),cat_set_cell hf hu' ho hu]
  exact hK)
 change WrOb H ((ad.add (k * n)).add o) [x] K
 rw [add_add]
 exact this
theorem Sl.pre {w:World} {ad:Addr} {len cap sz m c:Nat} {xs:List Value} (h:Sl w (.slice (some ad) len cap) sz xs) (hm:m ≤ len):Sl w (.slice (some (ad.add 0)) m c) sz (xs.take (m * sz)):=by
 obtain ⟨a,l,c',hv,hl,hc⟩:=h
 cases hv
 have:m * sz ≤ len * sz:=Nat.mul_le_mul_right _ hm
 refine ⟨_,_,_,rfl,by rw [List.length_take,hl]; omega,fun i x hi=>?_⟩
 rw [List.getElem?_take] at hi
 split at hi
 ·obtain ⟨ad',had,hx⟩:=hc i x hi
  cases had
  exact ⟨_,rfl,by rw [add_add,Nat.zero_add]; exact hx⟩
 ·cases hi
end Go.SX

namespace Go.SX
open Go.RowKit
theorem HImp.ro (w0:Base) (h:HO) (H:List HO):HImp w0 (h :: H) (.ro h :: H):=fun w hw=>by
 have hnd:=List.pairwise_cons.1 hw.nd
 refine ⟨⟨hw.ext,fun g hg=>?_,fun g hg b hb=>?_,List.pairwise_cons.2 ⟨fun g hg b hb hb'=>⟨id,(hnd.1 g hg b hb hb').2⟩,hnd.2⟩⟩,fun b ⟨g,hg,hb⟩=>?_,fun b ⟨g,hg,hb⟩=>?_⟩
 ·rcases List.mem_cons.1 hg with rfl | hg
  ·exact hw.ok h List.mem_cons_self
  ·exact hw.ok g (List.mem_cons_of_mem _ hg)
 ·rcases List.mem_cons.1 hg with rfl | hg
  ·exact hb.elim
  ·exact hw.old g (List.mem_cons_of_mem _ hg) b hb
 ·rcases List.mem_cons.1 hg with rfl | hg
  ·exact ⟨h,List.mem_cons_self,hb⟩
  ·exact ⟨g,List.mem_cons_of_mem _ hg,hb⟩
 ·rcases List.mem_cons.1 hg with rfl | hg
  ·exact hb.elim
  ·exact ⟨g,List.mem_cons_of_mem _ hg,hb⟩
theorem range_introA {P:Program} {w0:Base} {Ba Bb:XSt → St} {gf:Nat} {first cap:Array Value} {ps:List Tmp} {Q:XSt} {fr:List SV} {L:List Box} {H:List HO} (hT:CallT P gf) (n:Nat) (arg:Nat → List Value → List HO → Prop) (A Hc:List HO) (I:Nat → List Box → List HO → Prop) (Aw Rs:Nat → Prop)
  (hi:HImp w0 H (A ++ Hc)) (hAw:∀ b,Aw b → fpsx A b) (hRs:∀ b,Rs b → (b < w0.w.heap.size ∧ ¬ w0.X b) ∨ fpsx A b) (hit:∀ w,Hp w0 (A ++ Hc) w → Iter P gf first.toList cap.toList n arg Aw Rs w) (h0:I 0 L Hc) (hl:∀ k vs F,arg k vs F → vs.length = ps.length)
  (hstep:∀ k vs F L' H',k < n → arg k vs F → L'.length = L.length → I k L' H' → Ba (assignQ fun fr2 L2 H2=>Bb (rangeQ w0 L.length (I (k + 1)) Q fr) fr2 L2 H2) (setPs fr ps vs) L' (F ++ H'))
  (hend:∀ L' H',L'.length = L.length → I n L' H' → Q .nxt fr L' H'):RangeOb P w0 Ba Bb (.v (.func (.func gf) first cap)) ps Q fr L H:=
 ⟨hT,n,arg,A,Hc,I,Aw,Rs,(fun S=>S = []),Shared.none,fun k L H h=>⟨[],H,rfl,rfl,fun S' hS'=>by rw [show S' = [] from hS']; exact h⟩,hi,hAw,fun b hb=>(hRs b hb).imp id .inl,fun w hw=>(hit w hw).shared _,h0,hl,hstep,hend⟩
theorem ro_rdv {w0:Base} {H:List HO} {v:Value} {E:TypeId} {sz:Nat} {xs:List Value} (h:HO.ro (HO.row v E sz xs) ∈ H) (hl:∃ a len cap,v = .slice a len cap ∧ xs.length = len * sz ∧ (a = none → xs = [])):Rdv w0 H v sz xs:=by
 obtain ⟨a,len,cap,rfl,hl,hn⟩:=hl
 refine ⟨a,len,cap,rfl,hl,fun i x hx=>?_⟩
 cases a with
 | none=>
  rw [hn rfl] at hx
  simp at hx
 | some ad=>
  refine ⟨ad,rfl,.inr ⟨_,h,fun w hw=>?_⟩⟩
  obtain ⟨a,len',cap',e,hl,hc⟩:=RowOk.sl (E:=E) hw
  cases e
  obtain ⟨ad',e,hcell⟩:=hc i x hx
  cases e
  exact hcell
theorem ro_hp {w0:Base} {H:List HO} {v:Value} {E:TypeId} {sz:Nat} {xs:List Value} (h:HO.ro (HO.row v E sz xs) ∈ H) {w:World} (hp:Hp w0 H w):Sl w v sz xs:=RowOk.sl (E:=E) (hp.ok _ h)
theorem ld_olda {w0:Base} {H:List HO} {a:Addr} {b o:Nat} {v:Value} {K:SV → Prop} (e:a = ⟨b,o,none⟩) (h:w0.w.cell? ⟨b,o,none⟩ = some v) (hX:¬ w0.X b) (hK:K (.v v)):hold (LdOb w0 H a none K) ⟨0⟩:=by
 subst e
 exact ld_old h hX hK
structure Hid (p:Prop):Prop where
 get:p
theorem CallOb.pureH {P:Program} {w0:Base} {dr:Bool} {f:Nat} {args:List Value} {H:List HO} {k:Value → List HO → Prop} {Post:Value → List HO → Prop} (h:∀ w,Hp w0 H w → Fn P f args w (fun _=>False) Post) (hk:∀ v N,Post v N → Hid (k v (N ++ H))):CallOb P w0 dr (.fn f) args H k:=
 CallOb.pure h fun v N hp=>(hk v N hp).get
end Go.SX

namespace Go.SX
open Go.RowKit
theorem loop_constH {σ:Type} {w0:Base} {B:XSt → St} {Q:XSt} {fr:List SV} {L:List Box} {H:List HO} (H0:List HO) (hi:HImp w0 H H0) (wr:List (Nat × Nat)) (enc:σ → List (Nat × Value)) (Inv:σ → List HO → Prop) (μ:σ → Nat) (s0:σ)
  (hfit:fits 0 wr (enc s0) fr fr) (hI:Inv s0 H0) (h:∀ s H1 g,Inv s H1 → Hid (B (loopQ w0 wr enc (fun _=>L) Inv μ fr L.length (μ s) Q) (hv 0 wr (enc s) g fr) L H1)):LoopOb w0 B Q fr L H:=
 loop_constI H0 hi wr enc Inv μ s0 hfit hI fun s H1 g hs=>(h s H1 g hs).get
theorem CallOb.mutH {P:Program} {w0:Base} {f:Nat} {args:List Value} {H A B:List HO} {k:Value → List HO → Prop} {Post:Value → List HO → Prop} (hi:HImp w0 H (A ++ B)) (hA:∀ b,fps A b → fpsx A b) (h:∀ w,Hp w0 (A ++ B) w → Fn P f args w (fpsx A) Post) (hk:∀ v N,Post v N → Hid (k v (N ++ B))):CallOb P w0 false (.fn f) args H k:=
 CallOb.mut hi hA h fun v N hp=>(hk v N hp).get
theorem range_introH {P:Program} {w0:Base} {Ba Bb:XSt → St} {gf:Nat} {first cap:Array Value} {ps:List Tmp} {Q:XSt} {fr:List SV} {L:List Box} {H:List HO} (hT:CallT P gf) (n:Nat) (arg:Nat → List Value → List HO → Prop) (A Hc:List HO) (I:Nat → List Box → List HO → Prop) (Aw Rs:Nat → Prop)
  (hi:HImp w0 H (A ++ Hc)) (hAw:∀ b,Aw b → fpsx A b) (hRs:∀ b,Rs b → (b < w0.w.heap.size ∧ ¬ w0.X b) ∨ fpsx A b) (hit:∀ w,Hp w0 (A ++ Hc) w → Iter P gf first.toList cap.toList n arg Aw Rs w) (h0:I 0 L Hc) (hl:∀ k vs F,arg k vs F → vs.length = ps.length)
  (hstep:∀ k vs F L' H',k < n → arg k vs F → L'.length = L.length → I k L' H' → Hid (Ba (assignQ fun fr2 L2 H2=>Bb (rangeQ w0 L.length (I (k + 1)) Q fr) fr2 L2 H2) (setPs fr ps vs) L' (F ++ H')))
  (hend:∀ L' H',L'.length = L.length → I n L' H' → Hid (Q .nxt fr L' H')):RangeOb P w0 Ba Bb (.v (.func (.func gf) first cap)) ps Q fr L H:=
 range_introA hT n arg A Hc I Aw Rs hi hAw hRs hit h0 hl (fun k vs F L' H' a b c d=>(hstep k vs F L' H' a b c d).get) fun L' H' a b=>(hend L' H' a b).get
end Go.SX

namespace Go.SX
open Go.RowKit
theorem cut_constH {σ:Type} {w0:Base} {B:XSt → St} {K:St} {Q:XSt} {fr:List SV} {L:List Box} {H:List HO} (wr:List (Nat × Nat)) (enc:σ → List (Nat × Value)) (Inv:σ → List HO → Prop)
  (hB:Hid (B (cutQ w0 wr enc (fun _=>L) Inv fr L.length Q) fr L H)) (hK:∀ s H1 g,Inv s H1 → Hid (K (hv 0 wr (enc s) g fr) L H1)):hold (CutOb w0 B K Q fr L H) ⟨0⟩:=
 cut_const wr enc Inv hB.get fun s H1 g h=>(hK s H1 g h).get
end Go.SX

namespace Go.SX
open Go.RowKit
theorem ins_new {P:Program} {T kt et:TypeId} {d:TypeDesc} {b c:Nat} {es:Array MapEntry} {key x:Value} {H A B:List HO} {K:List HO → Prop} (hm:P.underlying T = some (.map kt et)) (hd:P.underlying kt = some d) (hk:MapKept.IsKey d key) (hf:Instr.findNow d key es.toList 0 = some none)
  (hH:H = A ++ .obj b (.map es c) :: B) (hK:K (A ++ .obj b (.map (es.push { key:=key,val:=x,born:=c }) (c + 1)) :: B)):hold (InsOb P T (.map (some b)) key x H K) ⟨0⟩:=by
 refine ⟨A,b,es,c,B,_,_,hH,fun w hb=>?_,hK⟩
 have hc:(Instr.checkKey false 10000 kt key).run P w = .ok () w:=MapKept.run_checkKey hd hk false 9999
 simp [Instr.mapUpdate,run_underlying hm,MapKept.run_getObj_map hb,hc,MapKept.run_findKey hd hf,MapKept.run_setObj_map _ hb,Result.andThen]
end Go.SX

namespace Go.SX
open Go.RowKit
def FnZ (P:Program) (f:Nat) (args:List Value) (w:World) (X Z:Nat → Prop) (Post:Value → List HO → Prop):Prop:=
 Calls P f args.toArray w fun e w'=>∃ v N,e = .returned v ∧ Keep X w w' ∧ (∀ h ∈ N,h.ok w') ∧ (∀ h ∈ N,∀ b,(h.fp b → Z b ∨ w.heap.size ≤ b) ∧ (h.fpx b → X b ∨ w.heap.size ≤ b)) ∧ N.Pairwise Apart ∧ Post v N
theorem CallOb.mutZ {P:Program} {w0:Base} {f:Nat} {args:List Value} {H A B:List HO} {k:Value → List HO → Prop} {Post:Value → List HO → Prop} (X Z:Nat → Prop) (hi:HImp w0 H (A ++ B)) (hX:∀ b,X b → fpsx A b) (hZ:∀ b,Z b → fps A b)
  (h:∀ w,Hp w0 (A ++ B) w → FnZ P f args w X Z Post) (hk:∀ v N,Post v N → Hid (k v (N ++ B))):CallOb P w0 false (.fn f) args H k:=by
 intro w hp0
 have hp:=(hi w hp0).1
 refine Calls.mono (h w hp) fun e w' he=>?_
 obtain ⟨v,N,rfl,hkeep,hok,hold,hnd,hpost⟩:=he
 have hAB:=List.pairwise_append.1 hp.nd
 have hup:∀ b,X b → fpsx H b:=fun b hb=>by
  obtain ⟨x,hx,hb⟩:=hX b hb
  exact (hi w hp0).2.2 b ⟨x,by simp [hx],hb⟩
 have hupZ:∀ b,Z b → fps H b:=fun b hb=>by
  obtain ⟨x,hx,hb⟩:=hZ b hb
  exact (hi w hp0).2.1 b ⟨x,by simp [hx],hb⟩
 have hupB:∀ h ∈ B,∀ b,h.fp b → fps H b:=fun x hx b hb=>(hi w hp0).2.1 b ⟨x,by simp [hx],hb⟩
 have hBs:∀ h ∈ B,SameOn h.fp w w':=fun x hx=>hkeep.sameOn (fun b hb=>HO.lt (hp.ok x (by simp [hx])) hb) fun b hb hXb=>by
  obtain ⟨y,hy,hyb⟩:=hX b hXb
  exact (hAB.2.2 y hy x hx b (HO.fp_of_fpx hyb) hb).1 hyb
 have hXold:∀ b,X b → w0.X b ∨ w0.w.heap.size ≤ b:=fun b hXb=>by
  obtain ⟨y,hy,hyb⟩:=hX b hXb
  exact hp.old y (by simp [hy]) b hyb
 refine ⟨v,X,N ++ B,rfl,hkeep,hup,⟨hkeep.into hp.ext hXold,fun h hh=>?_,fun h hh b hb=>?_,List.pairwise_append.2 ⟨hnd,hAB.2.1,fun h hh h' hh' b hb hb'=>?_⟩⟩,fun h hh b=>⟨fun hb=>?_,fun hb=>?_⟩,(fun h=>by cases h),(hk v N hpost).get⟩
 ·rcases List.mem_append.1 hh with hh | hh
  ·exact hok h hh
  ·exact HO.stable (hp.ok h (by simp [hh])) (hBs h hh)
 ·rcases List.mem_append.1 hh with hh | hh
  ·rcases (hold h hh b).2 hb with x | x
   ·exact hXold b x
   ·exact .inr (Nat.le_trans hp.ext.size x)
  ·exact hp.old h (by simp [hh]) b hb
 ·have hlt:=HO.lt (hp.ok h' (by simp [hh'])) hb'
  refine ⟨fun hx=>?_,fun hx'=>?_⟩
  ·rcases (hold h hh b).2 hx with x | x
   ·obtain ⟨y,hy,hyb⟩:=hX b x
    exact (hAB.2.2 y hy h' hh' b (HO.fp_of_fpx hyb) hb').1 hyb
   ·omega
  ·rcases (hold h hh b).1 hb with x | x
   ·obtain ⟨y,hy,hyb⟩:=hZ b x
    exact (hAB.2.2 y hy h' hh' b hyb hb').2 hx'
   ·omega
 ·rcases List.mem_append.1 hh with hh | hh
  ·rcases (hold h hh b).1 hb with x | x
   ·exact .inl (hupZ b x)
   ·exact .inr x
  ·exact .inl (hupB h hh b hb)
 ·rcases List.mem_append.1 hh with hh | hh
  ·rcases (hold h hh b).2 hb with x | x
   ·exact .inl (hup b x)
   ·exact .inr x
  ·exact .inl ((hi w hp0).2.2 b ⟨h,by simp [hh],hb⟩)
theorem CallOb.yieldL {P:Program} {l n:Nat} {arg:Nat → List Value → List HO → Prop} {ws:World} {C0 A:Nat → Prop} {J:Option Nat → (Nat → Prop) → (Nat → Prop) → World → Prop} (hH:Handler P l n arg ws C0 A J) {w0:Base} (hks:Keep (fun b=>C0 b ∨ A b) ws w0.w) (hXs:∀ b,w0.X b → (C0 b ∨ A b) ∨ ws.heap.size ≤ b)
  {k:Nat} {C R:Nat → Prop} {vs:List Value} {H F B:List HO} {kont:Value → List HO → Prop} (hk:k < n)
  (hi:HImp w0 H (consu J (some k) C R :: B)) (hF:F.Sublist B) (harg:arg k vs F) (hFx:∀ h ∈ F,∀ b,¬ h.fpx b) (hFn:∀ w,Hp w0 H w → ∀ b,fps F b → ws.heap.size ≤ b)
  (hy:∀ t C2 R2,Hid (kont (.bool t) (consu J (bif t then some (k + 1) else none) C2 R2 :: B))):CallOb P w0 false (.yield l) vs H kont:=by
 intro w hp0
 have hp:=(hi w hp0).1
 have hnd:=List.pairwise_cons.1 hp.nd
 have hc:=hp.ok (consu J (some k) C R) List.mem_cons_self
 have hB:∀ h ∈ B,h.ok w:=fun h hh=>hp.ok h (List.mem_cons_of_mem _ hh)
 have hFC:∀ b,fps F b → ¬ C b ∧ ws.heap.size ≤ b:=fun b hb=>⟨fun hC=>by
  obtain ⟨g,hg,hgb⟩:=hb
  exact (hnd.1 g (hF.subset hg) b (.inl hC) hgb).1 hC,hFn w hp0 b hb⟩
 obtain ⟨fn,tmps,assign,body,hrun,hround⟩:=hH.step k C R vs F w hk hc.1 harg (fun h hh=>hB h (hF.subset hh)) hFx hFC (hnd.2.sublist hF) (hp.ext.into hks hXs)
 refine ⟨fn,tmps,assign,body,hrun,RoundIn.mono hround ?_⟩
 rintro e w2 ⟨t,C2,R2,rfl,hkeep,hC2,hR2,hJ⟩
 have hlt:∀ h ∈ B,∀ b,h.fp b → b < w.heap.size:=fun h hh b hb=>HO.lt (hB h hh) hb
 have hBC:∀ h ∈ B,∀ b,h.fp b → ¬ C b:=fun h hh b hb hC=>(hnd.1 h hh b (.inl hC) hb).1 hC
 have upx:∀ b,C b → fpsx H b:=fun b hb=>(hi w hp0).2.2 b ⟨_,List.mem_cons_self,hb⟩
 have upr:∀ b,R b → fps H b:=fun b hb=>(hi w hp0).2.1 b ⟨_,List.mem_cons_self,.inr hb⟩
 have upB:∀ h ∈ B,∀ b,h.fp b → fps H b:=fun h hh b hb=>(hi w hp0).2.1 b ⟨h,List.mem_cons_of_mem _ hh,hb⟩
 have upBx:∀ h ∈ B,∀ b,h.fpx b → fpsx H b:=fun h hh b hb=>(hi w hp0).2.2 b ⟨h,List.mem_cons_of_mem _ hh,hb⟩
 have hBs:∀ h ∈ B,SameOn h.fp w w2:=fun h hh=>hkeep.sameOn (hlt h hh) (hBC h hh)
 have hfp2:∀ b,C2 b ∨ R2 b → fps H b ∨ w.heap.size ≤ b:=fun b hb=>by
  rcases hb with hb | hb
  ·rcases hC2 b hb with x | x
   ·exact .inl (fps_of_fpsx (upx b x))
   ·exact .inr x
  ·rcases hR2 b hb with x | ⟨g,hg,x⟩ | x | x
   ·exact .inl (upr b x)
   ·exact .inl (upB g (hF.subset hg) b x)
   ·exact .inl (fps_of_fpsx (upx b x))
   ·exact .inr x
 refine ⟨_,C,consu J (bif t then some (k + 1) else none) C2 R2 :: B,rfl,hkeep,upx,⟨hkeep.into hp.ext fun b hb=>hp.old _ List.mem_cons_self b hb,fun h hh=>?_,fun h hh b hb=>?_,List.pairwise_cons.2 ⟨fun h hh b hb hb'=>?_,hnd.2⟩⟩,fun h hh b=>⟨fun hb=>?_,fun hb=>?_⟩,(fun h=>by cases h),(hy t C2 R2).get⟩
 ·rcases List.mem_cons.1 hh with rfl | hh
  ·exact ⟨hJ,hH.lt _ _ _ _ hJ,fun w1 w2 hs hl hj=>hH.stable _ _ _ _ _ hs hl hj⟩
  ·exact HO.stable (hB h hh) (hBs h hh)
 ·rcases List.mem_cons.1 hh with rfl | hh
  ·rcases hC2 b hb with x | x
   ·exact hp.old _ List.mem_cons_self b x
   ·exact .inr (Nat.le_trans hp.ext.size x)
  ·exact hp.old h (List.mem_cons_of_mem _ hh) b hb
 ·have hltb:=hlt h hh b hb'
  have hnc:=hBC h hh b hb'
  have h1:¬ C2 b:=fun x=>by
   rcases hC2 b x with x | x
   ·exact hnc x
   ·omega
  refine ⟨h1,fun hx=>?_⟩
  rcases hb with x | x
  ·exact h1 x
  ·rcases hR2 b x with x | ⟨g,hg,x⟩ | x | x
   ·exact (hnd.1 h hh b (.inr x) hb').2 hx
   ·rcases List.mem_iff_getElem.1 hh with ⟨i,hi',rfl⟩
    rcases List.mem_iff_getElem.1 (hF.subset hg) with ⟨j,hj',rfl⟩
    rcases Nat.lt_trichotomy i j with h3 | h3 | h3
    ·exact (List.pairwise_iff_getElem.1 hnd.2 i j hi' hj' h3 b hb' x).1 hx
    ·subst h3
     exact hFx _ hg b hx
    ·exact (List.pairwise_iff_getElem.1 hnd.2 j i hj' hi' h3 b x hb').2 hx
   ·exact hnc x
   ·omega
 ·rcases List.mem_cons.1 hh with rfl | hh
  ·exact hfp2 b hb
  ·exact .inl (upB h hh b hb)
 ·rcases List.mem_cons.1 hh with rfl | hh
  ·rcases hC2 b hb with x | x
   ·exact .inl (upx b x)
   ·exact .inr x
  ·exact .inl (upBx h hh b hb)
theorem FnZ.mono {P:Program} {f:Nat} {args:List Value} {w:World} {X Z:Nat → Prop} {Post Post':Value → List HO → Prop} (h:FnZ P f args w X Z Post) (hp:∀ v N,Post v N → Post' v N):FnZ P f args w X Z Post':=
 Calls.mono h fun _e _w' ⟨v,N,a,b,c,d,e',p⟩=>⟨v,N,a,b,c,d,e',hp v N p⟩
theorem app_nilN {α:Type} {w0:Base} {e sz bytes:Nat} {z:List Value} {b c0:Nat} {H:List HO} {K:Value → List HO → Prop} {f:α → List Value} (u:α) (hf:∀ a,(f a).length = sz) (h1:∀ a,∀ y ∈ f a,y.oneCell' = true) (hb:bytes ≤ 140737488355328)
  (hK:∀ ad c,(∀ b,(Value.slice (some ad) 1 c).ownBlock = some b → w0.w.heap.size ≤ b) → K (.slice (some ad) 1 c) (.row (.slice (some ad) 1 c) e sz (cat f [u]) :: H)):hold (AppOb w0 (some (e,sz,z,bytes)) (.slice none 0 0) (.slice (some ⟨b,0,none⟩) 1 c0) (.row (.slice (some ⟨b,0,none⟩) 1 c0) e sz (f u) :: H) K) ⟨0⟩:=by
 refine app_atN (l:=[]) (m:=[u]) ((HImp.tail _ _ _).trans (HImp.nilRow _ _ _ _)) hf h1 (fun w hw=>?_) (by simp only [List.length_nil,List.length_singleton]; omega) fun ad c h hc hn=>?_
 ·rw [cat_one]
  exact row_hp List.mem_cons_self hw
 ·cases ad with
  | none=>simpa using (h rfl).2
  | some ad=>exact hK ad c fun b hb=>(hn b hb).resolve_left fun h=>by simp [Value.ownBlock] at h
def cmb {α:Type}:Nat → List α → List (List α)
 | 0,_=>[[]]
 | _ + 1,[]=>[]
 | m + 1,x :: r=>(cmb m r).map (x :: ·) ++ cmb (m + 1) r
theorem cmb_drop {α:Type} (m:Nat) {l:List α} {i:Nat} (h:i < l.length):cmb (m + 1) (l.drop i) = (cmb m (l.drop (i + 1))).map (l[i] :: ·) ++ cmb (m + 1) (l.drop (i + 1)):=by
 rw [List.drop_eq_getElem_cons h,cmb]
def tailAt {α:Type} (all part:List α) (k:Nat):Prop:=k + part.length ≤ all.length ∧ ∀ q,q < part.length → all[k + q]? = part[q]?
theorem tailAt_all {α:Type} (all:List α):tailAt all all 0:=⟨by omega,fun q _=>by rw [Nat.zero_add]⟩
theorem tailAt_left {α:Type} {all a b:List α} {k:Nat} (h:tailAt all (a ++ b) k):tailAt all a k:=by
 obtain ⟨h1,h2⟩:=h
 rw [List.length_append] at h1 h2
 exact ⟨by omega,fun q hq=>by rw [h2 q (by omega),List.getElem?_append_left hq]⟩
theorem tailAt_right {α:Type} {all a b:List α} {k:Nat} (h:tailAt all (a ++ b) k):tailAt all b (k + a.length):=by
 obtain ⟨h1,h2⟩:=h
 rw [List.length_append] at h1 h2
 exact ⟨by omega,fun q hq=>by rw [Nat.add_assoc,h2 (a.length + q) (by omega),List.getElem?_append_right (by omega),Nat.add_sub_cancel_left]⟩
end Go.SX

namespace Go.SX
open Go.RowKit
set_option linter.unusedSimpArgs false
set_option linter.unusedVariables false
def idx (n:Nat):List Int:=(List.range n).map fun (i:Nat)=>(i:Int)
theorem idx_len (n:Nat):(idx n).length = n:=by unfold idx; rw [List.length_map,List.length_range]
theorem idx_get {n i:Nat} (h:i < (idx n).length):(idx n)[i] = (i:Int):=by simp [idx]
def lexB:List Int → List Int → Bool
 | a :: x,b :: y=>if a = b then lexB x y else decide (a < b)
 | _,_=>false
def befB (x y:List Int):Bool:=if x.length = y.length then lexB x y else decide (x.length < y.length)
theorem lexB_irr (x:List Int):lexB x x = false:=by
 induction x with
 | nil=>rfl
 | cons a x ih=>simp [lexB,ih]
theorem lexB_asym:∀ {x y:List Int},lexB x y = true → lexB y x = false:=by
 intro x
 induction x with
 | nil=>intro y h; simp [lexB] at h
 | cons a x ih=>
  intro y h
  cases y with
  | nil=>simp [lexB] at h
  | cons b y=>
   simp only [lexB] at h ⊢
   by_cases e:a = b
   ·subst e; simp only [if_true] at h ⊢; exact ih h
   ·rw [if_neg e] at h; rw [if_neg (fun k=>e k.symm)]
    simp only [decide_eq_true_eq,decide_eq_false_iff_not] at h ⊢
    omega
theorem lexB_trans:∀ {x y z:List Int},lexB x y = true → lexB y z = true → lexB x z = true:=by
 intro x
 induction x with
 | nil=>intro y z h; simp [lexB] at h
 | cons a x ih=>
  intro y z h h2
  cases y with
  | nil=>simp [lexB] at h
  | cons b y=>
   cases z with
   | nil=>simp [lexB] at h2
   | cons c z=>
    simp only [lexB] at h h2 ⊢
    by_cases e:a = b
    ·subst e
     simp only [if_true] at h
     by_cases e2:a = c
     ·rw [if_pos e2] at h2 ⊢; exact ih h h2
     ·rw [if_neg e2] at h2 ⊢; exact h2
    ·rw [if_neg e,decide_eq_true_eq] at h
     by_cases e2:b = c
     ·subst e2; rw [if_neg e,decide_eq_true_eq]; exact h
     ·rw [if_neg e2,decide_eq_true_eq] at h2
      rw [if_neg (by omega),decide_eq_true_eq]; omega
theorem lexB_tri:∀ {x y:List Int},x.length = y.length → lexB x y = false → lexB y x = false → x = y:=by
 intro x
 induction x with
 | nil=>intro y h _ _; exact (List.eq_nil_of_length_eq_zero h.symm).symm
 | cons a x ih=>
  intro y hl h h2
  cases y with
  | nil=>simp at hl
  | cons b y=>
   simp only [lexB] at h h2
   by_cases e:a = b
   ·subst e
    simp only [if_true] at h h2
    rw [ih (by simpa using hl) h h2]
   ·rw [if_neg e,decide_eq_false_iff_not] at h
    rw [if_neg (fun k=>e k.symm),decide_eq_false_iff_not] at h2
    omega
theorem befB_trans {x y z:List Int} (h:befB x y = true) (h2:befB y z = true):befB x z = true:=by
 unfold befB at h h2 ⊢
 by_cases e1:x.length = y.length
 ·rw [if_pos e1] at h
  by_cases e2:y.length = z.length
  ·rw [if_pos e2] at h2; rw [if_pos (e1.trans e2)]; exact lexB_trans h h2
  ·rw [if_neg e2,decide_eq_true_eq] at h2; rw [if_neg (by omega),decide_eq_true_eq]; omega
 ·rw [if_neg e1,decide_eq_true_eq] at h
  by_cases e2:y.length = z.length
  ·rw [if_neg (by omega),decide_eq_true_eq]; omega
  ·rw [if_neg e2,decide_eq_true_eq] at h2; rw [if_neg (by omega),decide_eq_true_eq]; omega
theorem befB_tri {x y:List Int} (h:befB x y = false) (h2:befB y x = false):x = y:=by
 unfold befB at h h2
 by_cases e:x.length = y.length
 ·rw [if_pos e] at h; rw [if_pos e.symm] at h2; exact lexB_tri e h h2
 ·rw [if_neg e,decide_eq_false_iff_not] at h; rw [if_neg (fun k=>e k.symm),decide_eq_false_iff_not] at h2; omega
theorem cmb_mem {α:Type}:∀ {l:List α} {m:Nat} {x:List α},x ∈ cmb m l ↔ x.Sublist l ∧ x.length = m:=by
 intro l
 induction l with
 | nil=>
  intro m x
  cases m with
  | zero=>
   simp only [cmb,List.mem_singleton,List.sublist_nil]
   exact ⟨fun h=>⟨h,by rw [h]; rfl⟩,fun h=>h.1⟩
  | succ m=>
   simp only [cmb,List.not_mem_nil,List.sublist_nil,false_iff]
   rintro ⟨rfl,h⟩
   cases h
 | cons a r ih=>
  intro m x
  cases m with
  | zero=>
   simp only [cmb,List.mem_singleton]
   exact ⟨fun h=>by rw [h]; exact ⟨List.nil_sublist _,rfl⟩,fun h=>List.eq_nil_of_length_eq_zero h.2⟩
  | succ m=>
   simp only [cmb,List.mem_append,List.mem_map]
   constructor
   ·rintro (⟨y,hy,rfl⟩ | h)
    ·have:=ih.1 hy
     exact ⟨this.1.cons_cons a,by simp [this.2]⟩
    ·have:=ih.1 h
     exact ⟨this.1.cons a,this.2⟩
   ·rintro ⟨h,hl⟩
    cases h with
    | cons _ h=>exact .inr (ih.2 ⟨h,hl⟩)
    | cons_cons _ h=>exact .inl ⟨_,ih.2 ⟨h,by simpa using hl⟩,rfl⟩
theorem cmb_sorted:∀ {l:List Int} (m:Nat),l.Pairwise (· < ·) → (cmb m l).Pairwise fun x y=>lexB x y = true:=by
 intro l
 induction l with
 | nil=>
  intro m _
  cases m with
  | zero=>exact List.pairwise_singleton _ _
  | succ m=>exact List.Pairwise.nil
 | cons a r ih=>
  intro m h
  have h:=List.pairwise_cons.1 h
  cases m with
  | zero=>exact List.pairwise_singleton _ _
  | succ m=>
   refine List.pairwise_append.2 ⟨List.pairwise_map.2 ((ih m h.2).imp fun {x y} h=>by simp [lexB,h]),ih (m + 1) h.2,fun x hx y hy=>?_⟩
   obtain ⟨x,_,rfl⟩:=List.mem_map.1 hx
   obtain ⟨hy1,hy2⟩:=cmb_mem.1 hy
   cases y with
   | nil=>cases hy2
   | cons b y=>
    have:=h.1 b (hy1.subset List.mem_cons_self)
    simp only [lexB]
    rw [if_neg (by omega),decide_eq_true_eq]
    exact this
theorem idx_succ (n:Nat):idx (n + 1) = idx n ++ [(n:Int)]:=by unfold idx; rw [List.range_succ,List.map_append]; rfl
theorem idx_mem {n:Nat} {i:Int}:i ∈ idx n ↔ 0 ≤ i ∧ i < n:=by
 unfold idx
 rw [List.mem_map]
 constructor
 ·rintro ⟨k,hk,rfl⟩
  rw [List.mem_range] at hk
  omega
 ·intro h
  exact ⟨i.toNat,by rw [List.mem_range]; omega,by omega⟩
theorem idx_sorted (n:Nat):(idx n).Pairwise (· < ·):=by
 induction n with
 | zero=>exact List.Pairwise.nil
 | succ n ih=>
  rw [idx_succ]
  refine List.pairwise_append.2 ⟨ih,List.pairwise_singleton _ _,fun x hx y hy=>?_⟩
  rw [List.mem_singleton] at hy
  have:=idx_mem.1 hx
  omega
def fstL (P:List Int → Bool) (n:Nat):Option (List Int):=(List.range (n + 1)).findSome? fun m=>(cmb m (idx n)).find? P
theorem fs_none {β:Type} (f:Nat → Option β):∀ n,(∀ m,m < n → f m = none) → (List.range n).findSome? f = none:=by
 intro n
 induction n with
 | zero=>intro _; rfl
 | succ n ih=>
  intro h
  rw [List.range_succ,List.findSome?_append,ih fun m hm=>h m (by omega)]
  simp [h n (by omega)]
theorem fs_some {β:Type} (f:Nat → Option β) {k:Nat} {x:β} (h0:∀ m,m < k → f m = none) (h1:f k = some x):∀ n,k < n → (List.range n).findSome? f = some x:=by
 intro n
 induction n with
 | zero=>intro h; omega
 | succ n ih=>
  intro h
  rw [List.range_succ,List.findSome?_append]
  by_cases e:k = n
  ·subst e
   rw [fs_none f k h0]
   simp [h1]
  ·rw [ih (by omega)]
   rfl
def Best (P:List Int → Bool) (n:Nat) (x:List Int):Prop:=x.Sublist (idx n) ∧ P x = true ∧ ∀ y,y.Sublist (idx n) → P y = true → befB y x = false
theorem Best.uniq {P:List Int → Bool} {n:Nat} {x y:List Int} (hx:Best P n x) (hy:Best P n y):x = y:=befB_tri (hy.2.2 x hx.1 hx.2.1) (hx.2.2 y hy.1 hy.2.1)
theorem sub_len {n:Nat} {y:List Int} (h:y.Sublist (idx n)):y.length ≤ n:=by have:=h.length_le; rwa [idx_len] at this
theorem fst_none {P:List Int → Bool} {n:Nat} (h:fstL P n = none):∀ y,y.Sublist (idx n) → P y = false:=by
 intro y hy
 have:=(List.findSome?_eq_none_iff.1 h) y.length (by rw [List.mem_range]; have:=sub_len hy; omega)
 have:=List.find?_eq_none.1 this y (cmb_mem.2 ⟨hy,rfl⟩)
 simpa using this
theorem fst_some {P:List Int → Bool} {n:Nat} {x:List Int} (h:fstL P n = some x):Best P n x:=by
 have hx:∃ k,k < n + 1 ∧ (∀ m,m < k → (cmb m (idx n)).find? P = none) ∧ (cmb k (idx n)).find? P = some x:=by
  refine Classical.byContradiction fun hc=>?_
  have:∀ k,k ≤ n + 1 → ∀ m,m < k → (cmb m (idx n)).find? P = none:=by
   intro k
   induction k with
   | zero=>intro _ m hm; omega
   | succ k ih=>
    intro hk m hm
    by_cases e:m = k
    ·subst e
     cases hf:(cmb m (idx n)).find? P with
     | none=>rfl
     | some y=>
      have h1:=fs_some (fun m=>(cmb m (idx n)).find? P) (ih (by omega)) hf (n + 1) (by omega)
      have h2:some x = some y:=h.symm.trans h1
      cases h2
      exact absurd ⟨m,by omega,ih (by omega),hf⟩ hc
    ·exact ih (by omega) m (by omega)
  have:=fs_none (fun m=>(cmb m (idx n)).find? P) (n + 1) (this (n + 1) (Nat.le_refl _))
  rw [show fstL P n = none from this] at h
  cases h
 obtain ⟨k,hk,h0,h1⟩:=hx
 obtain ⟨hp,i,hi,hxi,hbef⟩:=List.find?_eq_some_iff_getElem.1 h1
 have hm:=cmb_mem.1 (List.mem_of_find?_eq_some h1)
 refine ⟨hm.1,hp,fun y hy hP=>?_⟩
 unfold befB
 by_cases e:y.length = x.length
 ·rw [if_pos e]
  have hy':y ∈ cmb k (idx n):=cmb_mem.2 ⟨hy,by omega⟩
  obtain ⟨j,hj,rfl⟩:=List.getElem_of_mem hy'
  rcases Nat.lt_trichotomy j i with h3 | h3 | h3
  ·have:=hbef j h3
   rw [hP] at this
   cases this
  ·subst h3
   rw [hxi]
   exact lexB_irr _
  ·have:=List.pairwise_iff_getElem.1 (cmb_sorted k (idx_sorted n)) i j hi hj h3
   rw [hxi] at this
   exact lexB_asym this
 ·rw [if_neg e,decide_eq_false_iff_not]
  intro hlt
  have:=List.find?_eq_none.1 (h0 y.length (by omega)) y (cmb_mem.2 ⟨hy,rfl⟩)
  exact this hP
theorem Best.fst {P:List Int → Bool} {n:Nat} {x:List Int} (h:Best P n x):fstL P n = some x:=by
 cases hf:fstL P n with
 | none=>have:=fst_none hf x h.1; rw [h.2.1] at this; cases this
 | some y=>rw [h.uniq (fst_some hf)]
def pick (p:Nat → Bool) (n:Nat):List Int:=((List.range n).filter p).map fun (i:Nat)=>(i:Int)
structure MaxI (mus:List Int → Option Int) (done:List Int → Prop) (t:Int) (m:List Int):Prop where
 all:∀ y,done y → ∃ u,mus y = some u ∧ u ≤ t ∧ (u = t → befB y m = false)
 one:(t = -1 ∧ m = [] ∧ ∀ y,¬ done y) ∨ (done m ∧ mus m = some t)
theorem befB_irr (y:List Int):befB y y = false:=by
 unfold befB
 rw [if_pos rfl]
 exact lexB_irr y
theorem MaxI.keep {mus:List Int → Option Int} {d:List Int → Prop} {t:Int} {m:List Int} (h:MaxI mus d t m) {y:List Int} {u:Int} (hy:mus y = some u) (h0:0 ≤ u) (hu:u ≤ t) (hb:u = t → befB y m = false):MaxI mus (fun z=>d z ∨ z = y) t m:=by
 refine ⟨fun z hz=>?_,?_⟩
 ·rcases hz with hz | rfl
  ·exact h.all z hz
  ·exact ⟨u,hy,hu,hb⟩
 ·rcases h.one with ⟨h1,_⟩ | ⟨h1,h2⟩
  ·omega
  ·exact .inr ⟨.inl h1,h2⟩
theorem MaxI.before {mus:List Int → Option Int} {d:List Int → Prop} {t:Int} {m:List Int} (h:MaxI mus d t m) {y:List Int} (hy:mus y = some t) (hb:befB y m = true):MaxI mus (fun z=>d z ∨ z = y) t y:=by
 refine ⟨fun z hz=>?_,.inr ⟨.inr rfl,hy⟩⟩
 rcases hz with hz | rfl
 ·obtain ⟨v,h1,h2,h3⟩:=h.all z hz
  refine ⟨v,h1,h2,fun e=>?_⟩
  cases hc:befB z y with
  | false=>rfl
  | true=>
   have:=befB_trans hc hb
   rw [h3 e] at this
   cases this
 ·exact ⟨t,hy,Int.le_refl _,fun _=>befB_irr z⟩
theorem MaxI.congr {mus:List Int → Option Int} {d d':List Int → Prop} {t:Int} {m:List Int} (h:MaxI mus d t m) (hd:∀ y,d y ↔ d' y):MaxI mus d' t m:=
 ⟨fun y hy=>h.all y ((hd y).2 hy),h.one.imp (fun ⟨a,b,c⟩=>⟨a,b,fun y hy=>c y ((hd y).2 hy)⟩) fun ⟨a,b⟩=>⟨(hd m).1 a,b⟩⟩
end Go.SX

namespace Go.SX
open Go.RowKit
def mapE (kd:IntKind) (L:List (Int × Value)):Array MapEntry:=(L.mapIdx fun i p=>({ key:=.int kd p.1,val:=p.2,born:=i }:MapEntry)).toArray
def mapO (kd:IntKind) (b:Nat) (L:List (Int × Value)):HO:=.obj b (.map (mapE kd L) L.length)
theorem mapE_push (kd:IntKind) (L:List (Int × Value)) (n:Int) (x:Value):mapE kd (L ++ [(n,x)]) = (mapE kd L).push { key:=.int kd n,val:=x,born:=L.length }:=by
 unfold mapE
 rw [List.mapIdx_append]
 simp
theorem mapE_mem {kd:IntKind} {L:List (Int × Value)} {e:MapEntry} (h:e ∈ (mapE kd L).toList):∃ p ∈ L,e.key = .int kd p.1 ∧ e.val = p.2:=by
 unfold mapE at h
 rw [List.toList_toArray] at h
 obtain ⟨i,hi,rfl⟩:=List.mem_mapIdx.1 h
 exact ⟨L[i],List.getElem_mem _,rfl,rfl⟩
theorem mapE_has {kd:IntKind} {L:List (Int × Value)} {p:Int × Value} (h:p ∈ L):∃ e ∈ (mapE kd L).toList,e.key = .int kd p.1:=by
 obtain ⟨i,hi,rfl⟩:=List.mem_iff_getElem.1 h
 unfold mapE
 rw [List.toList_toArray]
 exact ⟨_,List.mem_mapIdx.2 ⟨i,hi,rfl⟩,rfl⟩
theorem map_find (kd:IntKind) (L:List (Int × Value)) (n:Int):(Instr.findNow (.int kd) (.int kd n) (mapE kd L).toList 0 = some none ∧ ∀ p ∈ L,p.1 ≠ n) ∨ ∃ j p,Instr.findNow (.int kd) (.int kd n) (mapE kd L).toList 0 = some (some (j,p.2)) ∧ p ∈ L ∧ p.1 = n:=by
 have hk:MapKept.IsKey (.int kd) (.int kd n):=rfl
 rcases MapKept.findNow_spec hk (mapE kd L).toList 0 (fun e he=>by
  obtain ⟨p,_,h,_⟩:=mapE_mem he
  rw [h]
  rfl) with ⟨h1,h2⟩ | ⟨j,e,h1,h2,h3⟩
 ·refine .inl ⟨h1,fun p hp hn=>?_⟩
  obtain ⟨e,he,hke⟩:=mapE_has (kd:=kd) hp
  exact h2 e he (by rw [hke,hn])
 ·obtain ⟨p,hp,hk1,hv⟩:=mapE_mem (List.mem_of_getElem? h2)
  rw [hk1] at h3
  injection h3 with _ h3
  exact .inr ⟨0 + j,p,by rw [h1,hv],hp,h3⟩
theorem lk_num {P:Program} {w0:Base} {T kt et:TypeId} {kd:IntKind} {b:Nat} {L:List (Int × Value)} {n:Int} {z:Value} {H:List HO} {K:Value → Prop} (hm:P.underlying T = some (.map kt et)) (hd:P.underlying kt = some (.int kd)) (hz:∀ w,(zeroValue et).run P w = .ok z w)
  (hH:mapO kd b L ∈ H) (h1:(∀ p ∈ L,p.1 ≠ n) → K (.tuple #[z,.bool false])) (h2:∀ p ∈ L,p.1 = n → K (.tuple #[p.2,.bool true])):hold (LkOb P w0 T (.map (some b)) (.int kd n) true H K) ⟨0⟩:=by
 have hk:MapKept.IsKey (.int kd) (.int kd n):=rfl
 have hc:∀ e w,(Instr.checkKey e 10000 kt (.int kd n)).run P w = .ok () w:=fun e w=>MapKept.run_checkKey hd hk e 9999
 rcases map_find kd L n with ⟨hf,hn⟩ | ⟨j,p,hf,hp,hpn⟩
 ·refine ⟨.tuple #[z,.bool false],fun w hp=>?_,h1 hn⟩
  have hb:w.heap[b]? = some (.map (mapE kd L) L.length):=hp.ok _ hH
  simp [Instr.lookup,run_underlying hm,MapKept.run_getObj_map hb,hc,MapKept.run_findKey hd hf,Result.andThen,hz]
 ·refine ⟨.tuple #[p.2,.bool true],fun w hp=>?_,h2 p hp hpn⟩
  have hb:w.heap[b]? = some (.map (mapE kd L) L.length):=hp.ok _ hH
  simp [Instr.lookup,run_underlying hm,MapKept.run_getObj_map hb,hc,MapKept.run_findKey hd hf,Result.andThen]
theorem ins_num {P:Program} {T kt et:TypeId} {kd:IntKind} {b:Nat} {L:List (Int × Value)} {n:Int} {x:Value} {H A B:List HO} {K:List HO → Prop} (hm:P.underlying T = some (.map kt et)) (hd:P.underlying kt = some (.int kd)) (hn:∀ p ∈ L,p.1 ≠ n)
  (hH:H = A ++ mapO kd b L :: B) (hK:K (A ++ mapO kd b (L ++ [(n,x)]) :: B)):hold (InsOb P T (.map (some b)) (.int kd n) x H K) ⟨0⟩:=by
 have hk:MapKept.IsKey (.int kd) (.int kd n):=rfl
 have hf:Instr.findNow (.int kd) (.int kd n) (mapE kd L).toList 0 = some none:=by
  rcases map_find kd L n with ⟨hf,_⟩ | ⟨j,p,_,hp,hpn⟩
  ·exact hf
  ·exact absurd hpn (hn p hp)
 refine ins_new hm hd hk hf hH ?_
 unfold mapO at hK
 rw [mapE_push,List.length_append,List.length_singleton] at hK
 exact hK
end Go.SX

