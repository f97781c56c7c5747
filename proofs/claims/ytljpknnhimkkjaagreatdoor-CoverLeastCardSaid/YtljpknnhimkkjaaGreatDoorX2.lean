/- Parts of a proof: the symbolic walk and what it shows of single functions. -/
import Derived.Test.YtljpknnhimkkjaaGreatDoorX1
import Derived.RangeFuncLeaves
import Derived.RangeFuncNested
set_option linter.all false
namespace Go.SX
open Go.RowKit
inductive X where
 | nxt
 | ext (id:Nat)
 | ret
def X.exit:X → Exit
 | .nxt=>.normal
 | .ext i=>.exit i
 | .ret=>.ret
abbrev St:=List SV → List Box → List HO → Prop
abbrev XSt:=X → List SV → List Box → List HO → Prop
def mkD (r:Nat):Deferred:={ target:=.collected r,args:=#[] }
def MarksOk (ks:List (Nat × Obj)) (ms:List Nat):Prop:=ms.Nodup ∧ ∀ r ∈ ms,(r,Obj.deferred (some [])) ∈ ks
def RdOk (rd:Option Nat) (ks:List (Nat × Obj)):Prop:=∀ l,rd = some l → ∃ r,(l,Obj.loop r) ∈ ks
def PostW (E:Env) (bs:Nat → Nat) (L:List Box) (H:List HO) (w:World) (ks:List (Nat × Obj)) (ms:List Nat) (rd:Option Nat) (Q:XSt):Exit → Act → World → Prop:=fun e a w'=>
 ∃ x fr' bs' ks' ms' L' H',e = X.exit x ∧ a = { tmps:=rf bs' fr',defers:=ms'.map mkD } ∧ Q x fr' L' H' ∧ WfFr L'.length fr' ∧ Come bs bs' L L' H H' w w' ∧ (∀ y ∈ ks,y ∈ ks') ∧ MarksOk ks' ms' ∧ (rd.isSome = true → ms' = ms) ∧ Rel E.w0 bs' ks' L' H' w'
def Wp (E:Env) (c:Code) (Q:XSt) (fr:List SV) (L:List Box) (H:List HO):Prop:=
 ∀ (rd:Option Nat) (bs:Nat → Nat) (ks:List (Nat × Obj)) (ms:List Nat) (w:World),Rel E.w0 bs ks L H w → WfFr L.length fr → MarksOk ks ms → RdOk rd ks →
  c.wpIn (fence rd) 0 E.P (PostW E bs L H w ks ms rd Q) { tmps:=rf bs fr,defers:=ms.map mkD } w
def lkV (i:Nat):List (Nat × Value) → Option Value
 | []=>none
 | (j,v) :: r=>bif i == j then some v else lkV i r
def inI (i:Nat):List (Nat × Nat) → Bool
 | []=>false
 | (a,b) :: r=>(decide (a ≤ i) && decide (i ≤ b)) || inI i r
def hv1 (v:Option Value) (w:Bool) (g:Value) (x:SV):SV:=
 match v with
 | some v=>.v v
 | none=>bif w then .v g else x
def hv (i:Nat) (wr:List (Nat × Nat)) (enc:List (Nat × Value)) (g:Nat → Value):List SV → List SV
 | []=>[]
 | x :: r=>hv1 (lkV i enc) (inI i wr) (g i) x :: hv (i + 1) wr enc g r
def isV (s:SV) (v:Value):Prop:=
 match s with
 | .v x=>x = v
 | .b t=>.bool t = v
 | .p _ _=>False
def fit1 (v:Option Value) (w:Bool) (x y:SV):Prop:=
 match v with
 | some v=>isV y v
 | none=>bif w then True else x = y
def fits (i:Nat) (wr:List (Nat × Nat)) (enc:List (Nat × Value)):List SV → List SV → Prop
 | [],[]=>True
 | x :: r,y :: r'=>fit1 (lkV i enc) (inI i wr) x y ∧ fits (i + 1) wr enc r r'
 | _,_=>False
def loopQ {σ:Type} (w0:Base) (wr:List (Nat × Nat)) (enc:σ → List (Nat × Value)) (Lf:σ → List Box) (Inv:σ → List HO → Prop) (μ:σ → Nat) (fr:List SV) (n:Nat) (m:Nat) (Q:XSt):XSt:=fun x fr' L' H'=>
 match x with
 | .nxt=>∃ s' H2,fits 0 wr (enc s') fr fr' ∧ L'.take n = Lf s' ∧ HImp w0 H' H2 ∧ Inv s' H2 ∧ μ s' < m
 | .ext i=>Q (.ext i) fr' L' H'
 | .ret=>Q .ret fr' L' H'
def LoopOb (w0:Base) (B:XSt → St) (Q:XSt) (fr:List SV) (L:List Box) (H:List HO):Prop:=
 ∃ (σ:Type) (wr:List (Nat × Nat)) (enc:σ → List (Nat × Value)) (Lf:σ → List Box) (Inv:σ → List HO → Prop) (μ:σ → Nat) (s0:σ) (H0:List HO),
  fits 0 wr (enc s0) fr fr ∧ L = Lf s0 ∧ (∀ s,(Lf s).length = L.length) ∧ HImp w0 H H0 ∧ Inv s0 H0 ∧
  ∀ s H1 g,Inv s H1 → B (loopQ w0 wr enc Lf Inv μ fr L.length (μ s) Q) (hv 0 wr (enc s) g fr) (Lf s) H1
theorem hv_wf {wr:List (Nat × Nat)} {enc:List (Nat × Value)} {g:Nat → Value} {n:Nat}:∀ (fr:List SV) (i:Nat),WfFr n fr → WfFr n (hv i wr enc g fr)
 | [],_,_=>fun s hs=>by simp [hv] at hs
 | x :: r,i,h=>fun s hs=>by
  simp only [hv,List.mem_cons] at hs
  rcases hs with rfl | hs
  ·unfold hv1
   split
   ·trivial
   ·cases inI i wr
    ·exact h x List.mem_cons_self
    ·trivial
  ·exact hv_wf r (i + 1) (fun s hs=>h s (List.mem_cons_of_mem _ hs)) s hs
theorem fits_hv {wr:List (Nat × Nat)} {enc:List (Nat × Value)} (bs bs':Nat → Nat) {n:Nat} (ha:∀ j,j < n → bs' j = bs j):∀ (fr fr':List SV) (i:Nat) (g0:Nat → Value),fits i wr enc fr fr' → WfFr n fr → (∀ j,i ≤ j → g0 j = (fget fr' (j - i)).real bs') →
  fr'.map (SV.real bs') = (hv i wr enc g0 fr).map (SV.real bs)
 | [],[],_,_,_,_,_=>rfl
 | [],y :: r',i,g0,h,_,_=>by simp [fits] at h
 | x :: r,[],i,g0,h,_,_=>by simp [fits] at h
 | x :: r,y :: r',i,g0,h,hw,hg=>by
  obtain ⟨h1,h2⟩:=h
  simp only [List.map_cons,hv]
  congr 1
  ·unfold fit1 at h1
   unfold hv1
   cases hl:lkV i enc with
   | some v=>
    simp only [hl] at h1 ⊢
    cases y <;> simp_all [isV,SV.real]
   | none=>
    simp only [hl] at h1 ⊢
    cases hi:inI i wr with
    | true=>
     have:=hg i (Nat.le_refl _)
     simp only [Nat.sub_self,fget] at this
     simp [SV.real,this]
    | false=>
     rw [hi] at h1
     simp only [cond_false] at h1 ⊢
     subst h1
     exact SV.real_agree (hw x List.mem_cons_self) ha
  ·refine fits_hv bs bs' ha r r' (i + 1) g0 h2 (fun s hs=>hw s (List.mem_cons_of_mem _ hs)) fun j hj=>?_
   rw [hg j (by omega)]
   have:j - i = (j - (i + 1)) + 1:=by omega
   rw [this]
   rfl
theorem fits_rf {wr:List (Nat × Nat)} {enc:List (Nat × Value)} {bs bs':Nat → Nat} {n:Nat} (ha:∀ j,j < n → bs' j = bs j) {fr fr':List SV} (h:fits 0 wr enc fr fr') (hw:WfFr n fr):∃ g,rf bs' fr' = rf bs' (hv 0 wr enc g fr):=by
 refine ⟨fun j=>(fget fr' j).real bs',?_⟩
 have:=fits_hv bs bs' ha fr fr' 0 (fun j=>(fget fr' j).real bs') h hw (fun j _=>by simp)
 unfold rf
 rw [this]
 congr 1
 exact (List.map_congr_left fun s hs=>(SV.real_agree (hv_wf fr 0 hw s hs) ha).symm)
theorem wpIn_loopN {F:Fence} {n:Nat} {P:Program} {c:Code} {Q:Exit → Act → World → Prop} {a:Act} {w:World} (I:Nat → Act → World → Prop) (h₀:∃ m,I m a w)
  (round:∀ m a w,I m a w → c.wpIn F n P (Exit.then (fun a' w'=>∃ m',m' < m ∧ I m' a' w') Q) a w):(Code.loop c).wpIn F n P Q a w:=by
 intro b k cs hro hb hr
 have key:∀ j a w,I j a w →
   ∃ e a' w',Q e a' w' ∧ ArrivesIn (Machine.fenced P F) P (lone (b.atR a (.code c :: .inLoop c :: k)) cs w) b k cs e a' w':=by
  intro j
  induction j using Nat.strongRecOn with
  | _ j ih=>
   intro a w hI
   obtain ⟨e,a₁,w₁,hq,harr⟩:=round j a w hI b (.inLoop c :: k) cs hro hb hr
   cases e with
   | normal=>
    obtain ⟨m',hlt,hI₁⟩:=hq
    obtain ⟨e₂,a₂,w₂,hq₂,harr₂⟩:=ih m' hlt a₁ w₁ hI₁
    exact ⟨e₂,a₂,w₂,hq₂,.of_steps (StepsIn.trans harr (.one (fenced_calm hb hr rfl) stepR_inLoop)) harr₂⟩
   | exit id=>exact ⟨_,a₁,w₁,hq,.pass (x:=.inLoop c) rfl (fun _ _=>.inl (by simp)) harr⟩
   | goto l=>exact ⟨_,a₁,w₁,hq,.pass (x:=.inLoop c) rfl (fun _ _=>.inl (by simp)) harr⟩
   | ret=>exact ⟨_,a₁,w₁,hq,.pass (x:=.inLoop c) rfl (fun _ _=>.inl (by simp)) harr⟩
   | panic ch=>exact ⟨_,a₁,w₁,hq,.pass (x:=.inLoop c) rfl (fun _ _=>.inl (by simp)) harr⟩
   | outgrown=>exact ⟨_,a₁,w₁,hq,.pass (x:=.inLoop c) rfl (fun _ _=>.inl (by simp)) harr⟩
 obtain ⟨m,hm⟩:=h₀
 obtain ⟨e,a',w',hq,harr⟩:=key m a w hm
 exact ⟨e,a',w',hq,.of_steps (.one (fenced_calm hb hr rfl) stepR_loop) harr⟩
theorem loop_sound {E:Env} {c:Code} {B:XSt → St} (hB:∀ Q fr L H,B Q fr L H → Wp E c Q fr L H) {Q:XSt} {fr:List SV} {L:List Box} {H:List HO} (h:LoopOb E.w0 B Q fr L H):Wp E (.loop c) Q fr L H:=by
 obtain ⟨σ,wr,enc,Lf,Inv,μ,s0,H0,hfit,hL,hlen,himp,hinv,hround⟩:=h
 intro rd bs ks ms w r hf hm hrd
 refine wpIn_loopN (fun m a w'=>∃ s H1 g bs' ks' ms',m = μ s ∧ Inv s H1 ∧ a = { tmps:=rf bs' (hv 0 wr (enc s) g fr),defers:=ms'.map mkD } ∧ Come bs bs' L (Lf s) H H1 w w' ∧ (∀ y ∈ ks,y ∈ ks') ∧ MarksOk ks' ms' ∧ (rd.isSome = true → ms' = ms) ∧ Rel E.w0 bs' ks' (Lf s) H1 w') ?_ ?_
 ·obtain ⟨g,hg⟩:=fits_rf (bs:=bs) (bs':=bs) (fun _ _=>rfl) hfit hf
  exact ⟨_,s0,H0,g,bs,ks,ms,rfl,hinv,by rw [hg],⟨fun _ _=>rfl,by rw [← hL]; exact Nat.le_refl _,by rw [← hL]; exact (Frm.refl _ _ _ _).imp r.hp himp⟩,fun _ h=>h,hm,fun _=>rfl,by rw [← hL]; exact r.imp himp⟩
 ·rintro m a w' ⟨s,H1,g,bs1,ks1,ms1,rfl,hI,rfl,hc,hks,hm1,hmr,hr1⟩
  have hfl:WfFr (Lf s).length fr:=hf.le (Nat.le_of_eq (hlen s).symm)
  have hw:=hB _ _ _ _ (hround s H1 g hI) rd bs1 ks1 ms1 w' hr1 (hv_wf fr 0 hfl) hm1 (fun l hl=>by obtain ⟨r,hr⟩:=hrd l hl; exact ⟨r,hks _ hr⟩)
  refine wpIn_mono hw fun e a w'' hp=>?_
  obtain ⟨x,fr',bs2,ks2,ms2,L2,H2,rfl,rfl,hq,hf2,hc2,hks2,hm2,hmr2,hr2⟩:=hp
  have hcc:=hc.trans hc2
  cases x with
  | nxt=>
   obtain ⟨s',H3,hfit',hL',himp',hinv',hlt⟩:=hq
   have hag:∀ j,j < L.length → bs2 j = bs j:=fun j hj=>hcc.agree j hj
   obtain ⟨g',hg'⟩:=fits_rf (bs:=bs) (bs':=bs2) hag hfit' hf
   have hr3:Rel E.w0 bs2 ks2 (Lf s') H3 w'':=by rw [← hL']; exact (hr2.take L.length).imp himp'
   exact ⟨μ s',hlt,s',H3,g',bs2,ks2,ms2,rfl,hinv',by rw [hg'],⟨hag,Nat.le_of_eq (hlen s').symm,by rw [← hL']; exact (hcc.frm.take _).imp hr2.hp himp'⟩,fun y hy=>hks2 y (hks y hy),hm2,fun h=>(hmr2 h).trans (hmr h),hr3⟩
  | ext i=>exact ⟨.ext i,fr',bs2,ks2,ms2,L2,H2,rfl,rfl,hq,hf2,hcc,fun y hy=>hks2 y (hks y hy),hm2,fun h=>(hmr2 h).trans (hmr h),hr2⟩
  | ret=>exact ⟨.ret,fr',bs2,ks2,ms2,L2,H2,rfl,rfl,hq,hf2,hcc,fun y hy=>hks2 y (hks y hy),hm2,fun h=>(hmr2 h).trans (hmr h),hr2⟩
end Go.SX

namespace Go.SX
open Go.RowKit
structure Handler (P:Program) (l:Nat) (n:Nat) (arg:Nat → List Value → List HO → Prop) (ws:World) (C0 A:Nat → Prop) (J:Option Nat → (Nat → Prop) → (Nat → Prop) → World → Prop):Prop where
 stable:∀ st C R w1 w2,SameOn (fun b=>C b ∨ R b) w1 w2 → (∀ b,C b ∨ R b → b < w1.heap.size) → J st C R w1 → J st C R w2
 lt:∀ st C R w1,J st C R w1 → ∀ b,C b ∨ R b → b < w1.heap.size
 step:∀ k C R vs F w1,k < n → J (some k) C R w1 → arg k vs F → (∀ h ∈ F,h.ok w1) → (∀ h ∈ F,∀ b,¬ h.fpx b) → (∀ b,fps F b → ¬ C b ∧ ws.heap.size ≤ b) → F.Pairwise Apart → Keep (fun b=>C0 b ∨ A b) ws w1 →
  YieldAt Fence.wide 0 P l vs.toArray w1 fun e w2=>∃ t C2 R2,e = .returned (.bool t) ∧ Keep C w1 w2 ∧ (∀ b,C2 b → C b ∨ w1.heap.size ≤ b) ∧ (∀ b,R2 b → R b ∨ fps F b ∨ C b ∨ w1.heap.size ≤ b) ∧ J (bif t then some (k + 1) else none) C2 R2 w2
def Iter (P:Program) (gf:Nat) (pre post:List Value) (n:Nat) (arg:Nat → List Value → List HO → Prop) (A Rs:Nat → Prop) (w:World):Prop:=
 ∀ (l:Nat) (J:Option Nat → (Nat → Prop) → (Nat → Prop) → World → Prop) (C R:Nat → Prop),Handler P l n arg w C A J → J (some 0) C R w → (∀ b,A b → ¬ C b ∧ ¬ R b) → (∀ b,Rs b → ¬ C b) →
  Calls P gf (pre ++ [Value.func (.yield l) #[] #[]] ++ post).toArray w fun e w2=>∃ st C2 R2,e = .returned (.tuple #[]) ∧ Keep (fun b=>C b ∨ A b) w w2 ∧ (∀ b,C2 b → C b ∨ w.heap.size ≤ b) ∧ (∀ b,R2 b → R b ∨ C b ∨ w.heap.size ≤ b) ∧ (st = some n ∨ st = none) ∧ J st C2 R2 w2
structure Shared (NS:List HO → Prop):Prop where
 fx:∀ S,NS S → ∀ h ∈ S,∀ b,h.fp b → h.fpx b
 nd:∀ S,NS S → S.Pairwise Apart
 same:∀ S S',NS S → NS S' → ∀ b,fps S' b → fps S b
theorem Shared.none:Shared (fun S=>S = []) where
 fx:=fun S h x hx=>by rw [show S = [] from h] at hx; cases hx
 nd:=fun S h=>by rw [show S = [] from h]; exact List.Pairwise.nil
 same:=fun S S' h h' b hb=>by
  rw [show S' = [] from h'] at hb
  obtain ⟨x,hx,_⟩:=hb
  cases hx
def ShareJ (NS:List HO → Prop) (J:Option Nat → (Nat → Prop) → (Nat → Prop) → World → Prop):Prop:=
 (∀ k C R w1,J (some k) C R w1 → ∃ S,NS S ∧ (∀ h ∈ S,h.ok w1) ∧ ∀ b,fps S b → C b) ∧
 ∀ k C R w1 w2 S S',J (some k) C R w1 → NS S → (∀ h ∈ S,h.ok w1) → NS S' → (∀ h ∈ S',h.ok w2) → Keep (fps S) w1 w2 → J (some k) C R w2
def IterS (P:Program) (gf:Nat) (pre post:List Value) (n:Nat) (arg:Nat → List Value → List HO → Prop) (A Rs:Nat → Prop) (NS:List HO → Prop) (w:World):Prop:=
 ∀ (l:Nat) (J:Option Nat → (Nat → Prop) → (Nat → Prop) → World → Prop) (C R:Nat → Prop),Handler P l n arg w C A J → J (some 0) C R w → (∀ b,A b → ¬ C b ∧ ¬ R b) → (∀ b,Rs b → ¬ C b) → ShareJ NS J →
  Calls P gf (pre ++ [Value.func (.yield l) #[] #[]] ++ post).toArray w fun e w2=>∃ st C2 R2,e = .returned (.tuple #[]) ∧ Keep (fun b=>C b ∨ A b) w w2 ∧ (∀ b,C2 b → C b ∨ w.heap.size ≤ b) ∧ (∀ b,R2 b → R b ∨ C b ∨ w.heap.size ≤ b) ∧ (st = some n ∨ st = none) ∧ J st C2 R2 w2
theorem Iter.shared {P:Program} {gf:Nat} {pre post:List Value} {n:Nat} {arg:Nat → List Value → List HO → Prop} {A Rs:Nat → Prop} {w:World} (h:Iter P gf pre post n arg A Rs w) (NS:List HO → Prop):IterS P gf pre post n arg A Rs NS w:=fun l J C R h1 h2 h3 h4 _=>h l J C R h1 h2 h3 h4
def setPs:List SV → List Tmp → List Value → List SV
 | fr,t :: ts,v :: vs=>setPs (fset fr t (.v v)) ts vs
 | fr,_,_=>fr
def rangeQ (w0:Base) (n:Nat) (I:List Box → List HO → Prop) (Q:XSt) (fr:List SV):XSt:=fun x _ L2 H2=>
 match x with
 | .nxt=>∃ H3,HImp w0 H2 H3 ∧ I (L2.take n) H3
 | .ext i=>∃ H3,HImp w0 H2 H3 ∧ Q (.ext i) fr (L2.take n) H3
 | .ret=>∃ H3,HImp w0 H2 H3 ∧ Q .ret fr (L2.take n) H3
def assignQ (K:St):XSt:=fun x fr L H=>
 match x with
 | .nxt=>K fr L H
 | _=>False
def roFp (H:List HO) (b:Nat):Prop:=∃ h,HO.ro h ∈ H ∧ h.fp b
def RangeOb (P:Program) (w0:Base) (Ba Bb:XSt → St) (g:SV) (ps:List Tmp) (Q:XSt) (fr:List SV) (L:List Box) (H:List HO):Prop:=
 match g with
 | .v (.func (.func gf) first cap)=>CallT P gf ∧
  ∃ (n:Nat) (arg:Nat → List Value → List HO → Prop) (A Hc:List HO) (I:Nat → List Box → List HO → Prop) (Aw Rs:Nat → Prop) (NS:List HO → Prop),
   Shared NS ∧ (∀ k L H,I k L H → ∃ S B,NS S ∧ H = S ++ B ∧ ∀ S',NS S' → I k L (S' ++ B)) ∧
   HImp w0 H (A ++ Hc) ∧ (∀ b,Aw b → fpsx A b) ∧ (∀ b,Rs b → (b < w0.w.heap.size ∧ ¬ w0.X b) ∨ fpsx A b ∨ roFp Hc b) ∧ (∀ w,Hp w0 (A ++ Hc) w → IterS P gf first.toList cap.toList n arg Aw Rs NS w) ∧ I 0 L Hc ∧
   (∀ k vs F,arg k vs F → vs.length = ps.length) ∧
   (∀ k vs F L' H',k < n → arg k vs F → L'.length = L.length → I k L' H' → Ba (assignQ fun fr2 L2 H2=>Bb (rangeQ w0 L.length (I (k + 1)) Q fr) fr2 L2 H2) (setPs fr ps vs) L' (F ++ H')) ∧
   (∀ L' H',L'.length = L.length → I n L' H' → Q .nxt fr L' H')
 | _=>False
structure RelS (w0:Base) (bs:Nat → Nat) (ks:List (Nat × Obj)) (L:List Box) (H:List HO) (w:World):Prop where
 ok:∀ h ∈ H,h.ok w
 old:∀ h ∈ H,∀ b,h.fpx b → w0.X b ∨ w0.w.heap.size ≤ b
 nd:H.Pairwise Apart
 box:∀ j T cs,L[j]? = some (T,cs) → w.heap[bs j]? = some (.cells cs.toArray T (0,0))
 bold:∀ j,j < L.length → w0.w.heap.size ≤ bs j
 bnd:∀ i j,i < L.length → j < L.length → bs i = bs j → i = j
 bh:∀ j,j < L.length → ∀ h ∈ H,¬ h.fp (bs j)
 kok:∀ x ∈ ks,w.heap[x.1]? = some x.2
 kold:∀ x ∈ ks,w0.w.heap.size ≤ x.1
 kh:∀ x ∈ ks,∀ h ∈ H,¬ h.fp x.1
 kb:∀ x ∈ ks,∀ j,j < L.length → x.1 ≠ bs j
section
variable {w0:Base} {bs:Nat → Nat} {ks:List (Nat × Obj)} {L:List Box} {H:List HO} {w:World}
theorem Rel.part (r:Rel w0 bs ks L H w):RelS w0 bs ks L H w:=⟨r.hp.ok,r.hp.old,r.hp.nd,r.box,r.bold,r.bnd,r.bh,r.kok,r.kold,r.kh,r.kb⟩
theorem RelS.whole (r:RelS w0 bs ks L H w) (h:Keep w0.X w0.w w):Rel w0 bs ks L H w:=⟨⟨h,r.ok,r.old,r.nd⟩,r.box,r.bold,r.bnd,r.bh,r.kok,r.kold,r.kh,r.kb⟩
def ownC (bs:Nat → Nat) (L:List Box) (H:List HO) (l:Nat) (b:Nat):Prop:=(∃ j,j < L.length ∧ b = bs j) ∨ fpsx H b ∨ b = l
def ownR (ks:List (Nat × Obj)) (H:List HO) (b:Nat):Prop:=fps H b ∨ ∃ x ∈ ks,b = x.1
theorem RelS.stable {w':World} {l:Nat} (r:RelS w0 bs ks L H w) (h:SameOn (fun b=>ownC bs L H l b ∨ ownR ks H b) w w'):RelS w0 bs ks L H w':=by
 refine ⟨fun x hx=>HO.stable (r.ok x hx) ⟨h.size,fun b hb=>h.same b (.inr (.inl ⟨x,hx,hb⟩))⟩,r.old,r.nd,fun j T cs hj=>?_,r.bold,r.bnd,r.bh,fun x hx=>?_,r.kold,r.kh,r.kb⟩
 ·rw [h.same _ (.inl (.inl ⟨j,(List.getElem?_eq_some_iff.1 hj).1,rfl⟩))]
  exact r.box j T cs hj
 ·rw [h.same _ (.inr (.inr ⟨x,hx,rfl⟩))]
  exact r.kok x hx
theorem RelS.share {w':World} {NS:List HO → Prop} {S0 S S' B:List HO} (hN:Shared NS) (r:RelS w0 bs ks L (S0 ++ B) w) (h0:NS S0) (hS:NS S) (hS':NS S') (hok:∀ h ∈ S',h.ok w') (hk:Keep (fps S) w w'):
  RelS w0 bs ks L (S' ++ B) w' ∧ (∀ b,fps (S' ++ B) b ↔ fps (S0 ++ B) b) ∧ (∀ b,fpsx (S' ++ B) b ↔ fpsx (S0 ++ B) b):=by
 have hnd:=List.pairwise_append.1 r.nd
 have h1:∀ b,fps S' b → ∃ g ∈ S0,g.fp b ∧ g.fpx b:=fun b hb=>by
  obtain ⟨g,hg,hgb⟩:=hN.same S0 S' h0 hS' b hb
  exact ⟨g,hg,hgb,hN.fx S0 h0 g hg b hgb⟩
 have h2:∀ b,fps S b → ∃ g ∈ S0,g.fp b ∧ g.fpx b:=fun b hb=>by
  obtain ⟨g,hg,hgb⟩:=hN.same S0 S h0 hS b hb
  exact ⟨g,hg,hgb,hN.fx S0 h0 g hg b hgb⟩
 have h3:∀ b,fps S0 b → ∃ g ∈ S',g.fp b ∧ g.fpx b:=fun b hb=>by
  obtain ⟨g,hg,hgb⟩:=hN.same S' S0 hS' h0 b hb
  exact ⟨g,hg,hgb,hN.fx S' hS' g hg b hgb⟩
 have hBS:∀ g ∈ B,∀ b,g.fp b → ¬ fps S b:=fun g hg b hb hs=>by
  obtain ⟨y,hy,hyb,hyx⟩:=h2 b hs
  exact (hnd.2.2 y hy g hg b hyb hb).1 hyx
 have hBS':∀ g ∈ B,∀ b,g.fp b → ¬ fps S' b:=fun g hg b hb hs=>by
  obtain ⟨y,hy,hyb,hyx⟩:=h1 b hs
  exact (hnd.2.2 y hy g hg b hyb hb).1 hyx
 refine ⟨⟨fun h hh=>?_,fun h hh b hb=>?_,List.pairwise_append.2 ⟨hN.nd S' hS',hnd.2.1,fun h hh g hg b hb hb'=>absurd ⟨h,hh,hb⟩ (hBS' g hg b hb')⟩,fun j T cs hj=>?_,r.bold,r.bnd,fun j hj h hh hb=>?_,fun x hx=>?_,r.kold,fun x hx h hh hb=>?_,r.kb⟩,fun b=>?_,fun b=>?_⟩
 ·rcases List.mem_append.1 hh with hh | hh
  ·exact hok h hh
  ·have hw:=r.ok h (List.mem_append_right _ hh)
   exact HO.stable hw (hk.sameOn (fun b hb=>HO.lt hw hb) fun b hb=>hBS h hh b hb)
 ·rcases List.mem_append.1 hh with hh | hh
  ·obtain ⟨g,hg,_,hgx⟩:=h1 b ⟨h,hh,HO.fp_of_fpx hb⟩
   exact r.old g (List.mem_append_left _ hg) b hgx
  ·exact r.old h (List.mem_append_right _ hh) b hb
 ·have hb:=r.box j T cs hj
  have hjl:=(List.getElem?_eq_some_iff.1 hj).1
  rw [hk.block _ (lt_of_heap hb) fun hs=>by
   obtain ⟨g,hg,hgb,_⟩:=h2 _ hs
   exact r.bh j hjl g (List.mem_append_left _ hg) hgb]
  exact hb
 ·rcases List.mem_append.1 hh with hh | hh
  ·obtain ⟨g,hg,hgb,_⟩:=h1 _ ⟨h,hh,hb⟩
   exact r.bh j hj g (List.mem_append_left _ hg) hgb
  ·exact r.bh j hj h (List.mem_append_right _ hh) hb
 ·have hb:=r.kok x hx
  rw [hk.block _ (lt_of_heap hb) fun hs=>by
   obtain ⟨g,hg,hgb,_⟩:=h2 _ hs
   exact r.kh x hx g (List.mem_append_left _ hg) hgb]
  exact hb
 ·rcases List.mem_append.1 hh with hh | hh
  ·obtain ⟨g,hg,hgb,_⟩:=h1 _ ⟨h,hh,hb⟩
   exact r.kh x hx g (List.mem_append_left _ hg) hgb
  ·exact r.kh x hx h (List.mem_append_right _ hh) hb
 ·constructor
  ·rintro ⟨h,hh,hb⟩
   rcases List.mem_append.1 hh with hh | hh
   ·obtain ⟨g,hg,hgb,_⟩:=h1 b ⟨h,hh,hb⟩
    exact ⟨g,List.mem_append_left _ hg,hgb⟩
   ·exact ⟨h,List.mem_append_right _ hh,hb⟩
  ·rintro ⟨h,hh,hb⟩
   rcases List.mem_append.1 hh with hh | hh
   ·obtain ⟨g,hg,hgb,_⟩:=h3 b ⟨h,hh,hb⟩
    exact ⟨g,List.mem_append_left _ hg,hgb⟩
   ·exact ⟨h,List.mem_append_right _ hh,hb⟩
 ·constructor
  ·rintro ⟨h,hh,hb⟩
   rcases List.mem_append.1 hh with hh | hh
   ·obtain ⟨g,hg,_,hgx⟩:=h1 b ⟨h,hh,HO.fp_of_fpx hb⟩
    exact ⟨g,List.mem_append_left _ hg,hgx⟩
   ·exact ⟨h,List.mem_append_right _ hh,hb⟩
  ·rintro ⟨h,hh,hb⟩
   rcases List.mem_append.1 hh with hh | hh
   ·obtain ⟨g,hg,_,hgx⟩:=h3 b ⟨h,hh,HO.fp_of_fpx hb⟩
    exact ⟨g,List.mem_append_left _ hg,hgx⟩
   ·exact ⟨h,List.mem_append_right _ hh,hb⟩
end
theorem putObj_keep {w:World} {l:Nat} (o:Obj):Keep (fun b=>b = l) w (w.putObj l o):=
 ⟨rfl,rfl,rfl,by simp,fun k _ hn=>World.putObj_heap_other hn⟩
theorem Rel.putK {w0:Base} {bs:Nat → Nat} {ks:List (Nat × Obj)} {L:List Box} {H:List HO} {w:World} {l:Nat} {o:Obj} (r:Rel w0 bs ks L H w) (hl:l < w.heap.size) (hold:w0.w.heap.size ≤ l) (hb:∀ j,j < L.length → l ≠ bs j) (hh:∀ h ∈ H,¬ h.fp l) (hk:∀ x ∈ ks,x.1 ≠ l):
  Rel w0 bs ((l,o) :: ks) L H (w.putObj l o):=by
 have hp:=putObj_keep (w:=w) (l:=l) o
 refine ⟨⟨hp.into r.hp.ext (fun b e=>.inr (e ▸ hold)),fun h hh'=>HO.stable (r.hp.ok h hh') (hp.sameOn (fun _ hb=>HO.lt (r.hp.ok h hh') hb) fun b hb e=>hh h hh' (e ▸ hb)),r.hp.old,r.hp.nd⟩,
  fun j T cs hj=>?_,r.bold,r.bnd,r.bh,fun x hx=>?_,fun x hx=>?_,fun x hx=>?_,fun x hx=>?_⟩
 ·have hjl:=(List.getElem?_eq_some_iff.1 hj).1
  rw [World.putObj_heap_other (Ne.symm (hb j hjl))]
  exact r.box j T cs hj
 ·rcases List.mem_cons.1 hx with rfl | hx
  ·exact World.putObj_heap_same hl
  ·rw [World.putObj_heap_other (hk x hx)]
   exact r.kok x hx
 ·rcases List.mem_cons.1 hx with rfl | hx
  ·exact hold
  ·exact r.kold x hx
 ·rcases List.mem_cons.1 hx with rfl | hx
  ·exact hh
  ·exact r.kh x hx
 ·rcases List.mem_cons.1 hx with rfl | hx
  ·exact hb
  ·exact r.kb x hx
theorem Rel.dropK {w0:Base} {bs:Nat → Nat} {ks ks':List (Nat × Obj)} {L:List Box} {H:List HO} {w:World} (r:Rel w0 bs ks L H w) (h:∀ x ∈ ks',x ∈ ks):Rel w0 bs ks' L H w:=
 ⟨r.hp,r.box,r.bold,r.bnd,r.bh,fun x hx=>r.kok x (h x hx),fun x hx=>r.kold x (h x hx),fun x hx=>r.kh x (h x hx),fun x hx=>r.kb x (h x hx)⟩
theorem Rel.newK {w0:Base} {bs:Nat → Nat} {ks:List (Nat × Obj)} {L:List Box} {H:List HO} {w:World} (r:Rel w0 bs ks L H w) (o:Obj):Rel w0 bs ((w.heap.size,o) :: ks) L H (w.alloc o):=by
 have r':Rel w0 bs ks L H (w.alloc o):=r.keep (Keep.alloc (fun _=>False) w o) (fun _ h=>h.elim) (r.hp.alloc o) fun h hh b hb=>.inl ⟨h,hh,hb⟩
 refine ⟨r'.hp,r'.box,r'.bold,r'.bnd,r'.bh,fun x hx=>?_,fun x hx=>?_,fun x hx=>?_,fun x hx=>?_⟩
 ·rcases List.mem_cons.1 hx with rfl | hx
  ·exact heap_alloc_new w o
  ·exact r'.kok x hx
 ·rcases List.mem_cons.1 hx with rfl | hx
  ·exact r.hp.ext.size
  ·exact r'.kold x hx
 ·rcases List.mem_cons.1 hx with rfl | hx
  ·intro h hh hb
   have:=HO.lt (r.hp.ok h hh) hb
   simp at this
  ·exact r'.kh x hx
 ·rcases List.mem_cons.1 hx with rfl | hx
  ·intro j hj
   have:=r.blt hj
   simp only []
   omega
  ·exact r'.kb x hx
theorem setPs_rf (bs:Nat → Nat):∀ (ps:List Tmp) (vs:List Value) (fr:List SV),ps.length = vs.length →
  ((ps.toArray.zip vs.toArray).foldl (fun tmps (x:Tmp × Value)=>tmps.setIfInBounds x.1 x.2) (rf bs fr)) = rf bs (setPs fr ps vs):=by
 intro ps vs fr h
 rw [List.zip_toArray,List.foldl_toArray']
 ·induction ps generalizing vs fr with
  | nil=>cases vs <;> simp_all [setPs]
  | cons t ts ih=>
   cases vs with
   | nil=>simp at h
   | cons v vs=>
    simp only [List.zip_cons_cons,List.foldl_cons,setPs]
    have:v = (SV.v v).real bs:=rfl
    rw [this,rf_set]
    exact ih vs _ (by simpa using h)
 ·rfl
theorem setPs_wf {n:Nat}:∀ (ps:List Tmp) (vs:List Value) (fr:List SV),WfFr n fr → WfFr n (setPs fr ps vs)
 | [],_,fr,h=>by simpa [setPs] using h
 | t :: ts,[],fr,h=>by simpa [setPs] using h
 | t :: ts,v :: vs,fr,h=>setPs_wf ts vs _ (h.set (y:=.v v) trivial t)
end Go.SX

namespace Go.SX
open Go.RowKit
def X.code:X → Code
 | .nxt=>.skip
 | .ext i=>.exit i
 | .ret=>.ret
def rec0 (fn:Nat) (tmps:Array Value) (ps:Array Tmp) (assign body:Code) (df:Nat) (st:LoopState) (pd:Option Code):Loop:=
 { state:=st,pending:=pd,fn:=fn,tmps:=tmps,params:=ps,assign:=assign,body:=body,defers:=df }
def JSt (w0:Base) (bs:Nat → Nat) (ks:List (Nat × Obj)) (n:Nat) (l:Nat) (rc:LoopState → Option Code → Loop) (I:Nat → List Box → List HO → Prop) (Qx:X → List Box → List HO → Prop) (st:Option Nat) (C R:Nat → Prop) (v:World):Prop:=
 ∃ L' H',L'.length = n ∧ RelS w0 bs ks L' H' v ∧ (∀ j,j < n → l ≠ bs j) ∧ (∀ h ∈ H',¬ h.fp l) ∧ (∀ b,C b ↔ ownC bs L' H' l b) ∧ (∀ b,R b ↔ ownR ks H' b) ∧
  match st with
  | some k=>v.heap[l]? = some (.loop (rc .ready none)) ∧ I k L' H'
  | none=>∃ x,x ≠ X.nxt ∧ v.heap[l]? = some (.loop (rc .done (some x.code))) ∧ Qx x L' H'
theorem enter_run {P:Program} {w0:Base} {bs:Nat → Nat} {ks:List (Nat × Obj)} {ms:List Nat} {L:List Box} {H:List HO} {w:World} {rd:Option Nat} (r:Rel w0 bs ks L H w) (hm:MarksOk ks ms) (hrd:RdOk rd ks) (fn:Nat) (tmps:Array Value) (ps:Array Tmp) (assign body:Code):
  ∃ l mark w1 ms1 ks1 df,(Instr.enterLoop fn tmps ps assign body rd).run P w = .ok (l,mark) w1 ∧ mark ++ ms.map mkD = ms1.map mkD ∧ MarksOk ks1 ms1 ∧ (rd.isSome = true → ms1 = ms) ∧ (∀ y ∈ ks,y ∈ ks1) ∧
   Rel w0 bs ((l,.loop (rec0 fn tmps ps assign body df .ready none)) :: ks1) L H w1 ∧ (∀ x ∈ ks1,x.1 ≠ l) ∧ w.heap.size ≤ l ∧ Keep (fun _=>False) w w1:=by
 cases rd with
 | none=>
  have r1:=r.newK (.deferred (some []))
  have r2:=r1.newK (.loop (rec0 fn tmps ps assign body w.heap.size .ready none))
  simp only [World.size_alloc] at r2
  refine ⟨_,_,_,w.heap.size :: ms,_,w.heap.size,run_enterLoop_outer fn tmps ps assign body,rfl,⟨List.nodup_cons.2 ⟨fun h=>?_,hm.1⟩,fun x hx=>?_⟩,(fun h=>by cases h),fun y hy=>List.mem_cons_of_mem _ hy,r2,fun x hx=>?_,by omega,?_⟩
  ·have:=lt_of_heap (r.kok _ (hm.2 _ h))
   simp at this
  ·rcases List.mem_cons.1 hx with rfl | hx
   ·exact List.mem_cons_self
   ·exact List.mem_cons_of_mem _ (hm.2 x hx)
  ·rcases List.mem_cons.1 hx with rfl | hx
   ·simp
   ·have:=lt_of_heap (r.kok x hx)
    omega
  ·exact ((Keep.alloc (fun _=>False) w (.deferred (some []))).trans (Keep.alloc (fun _=>False) _ _)).mono fun b hb=>hb.elim id id
 | some l0=>
  obtain ⟨r0,hr0⟩:=hrd l0 rfl
  have r1:=r.newK (.loop (rec0 fn tmps ps assign body r0.defers .ready none))
  refine ⟨_,_,_,ms,ks,r0.defers,run_enterLoop_inner (r.kok _ hr0) fn tmps ps assign body,rfl,hm,fun _=>rfl,fun _ h=>h,r1,fun x hx=>?_,Nat.le_refl _,Keep.alloc _ w _⟩
  have:=lt_of_heap (r.kok x hx)
  omega
theorem RelS.ltC {w0:Base} {bs:Nat → Nat} {ks:List (Nat × Obj)} {L:List Box} {H:List HO} {w:World} {l:Nat} {o:Obj} (r:RelS w0 bs ks L H w) (hl:w.heap[l]? = some o) {b:Nat} (h:ownC bs L H l b ∨ ownR ks H b):b < w.heap.size:=by
 rcases h with (⟨j,hj,rfl⟩ | ⟨x,hx,hb⟩ | rfl) | (⟨x,hx,hb⟩ | ⟨x,hx,rfl⟩)
 ·exact lt_of_heap (r.box j _ _ (by rw [List.getElem?_eq_getElem hj]))
 ·exact HO.lt (r.ok x hx) (HO.fp_of_fpx hb)
 ·exact lt_of_heap hl
 ·exact HO.lt (r.ok x hx) hb
 ·exact lt_of_heap (r.kok x hx)
theorem fps_append {A B:List HO} {b:Nat} (h:fps (A ++ B) b):fps A b ∨ fps B b:=by
 obtain ⟨x,hx,hb⟩:=h
 rcases List.mem_append.1 hx with hx | hx
 ·exact .inl ⟨x,hx,hb⟩
 ·exact .inr ⟨x,hx,hb⟩
theorem fpsx_append {A B:List HO} {b:Nat} (h:fpsx (A ++ B) b):fpsx A b ∨ fpsx B b:=by
 obtain ⟨x,hx,hb⟩:=h
 rcases List.mem_append.1 hx with hx | hx
 ·exact .inl ⟨x,hx,hb⟩
 ·exact .inr ⟨x,hx,hb⟩
theorem round_rel {w0:Base} {bs:Nat → Nat} {ks:List (Nat × Obj)} {L:List Box} {H F:List HO} {v ws:World} {l:Nat} {o:Obj} {C0 A C:Nat → Prop} (r:RelS w0 bs ks L H v) (hl:v.heap[l]? = some o) (hlb:∀ j,j < L.length → l ≠ bs j) (hlh:∀ h ∈ H,¬ h.fp l) (hC:∀ b,C b ↔ ownC bs L H l b)
  (hF:∀ h ∈ F,h.ok v) (hFx:∀ h ∈ F,∀ b,¬ h.fpx b) (hFC:∀ b,fps F b → ¬ C b ∧ ws.heap.size ≤ b) (hFn:F.Pairwise Apart) (hk:Keep (fun b=>C0 b ∨ A b) ws v) (hext:Keep w0.X w0.w ws) (hCA:∀ b,C0 b ∨ A b → w0.X b ∨ w0.w.heap.size ≤ b)
  (hks:∀ x ∈ ks,x.1 < ws.heap.size) (hkl:∀ x ∈ ks,x.1 ≠ l) (hlo:w0.w.heap.size ≤ l):
  Rel w0 bs ((l,o) :: ks) L (F ++ H) v:=by
 have hd:∀ h ∈ F,∀ h' ∈ H,Apart h h':=fun h hh h' hh' b hb hb'=>⟨hFx h hh b,fun hx=>(hFC b ⟨h,hh,hb⟩).1 ((hC b).2 (.inr (.inl ⟨h',hh',hx⟩)))⟩
 refine ⟨⟨hk.into hext hCA,fun h hh=>?_,fun h hh b hb=>?_,List.pairwise_append.2 ⟨hFn,r.nd,hd⟩⟩,r.box,r.bold,r.bnd,fun j hj h hh hb=>?_,fun x hx=>?_,fun x hx=>?_,fun x hx h hh hb=>?_,fun x hx=>?_⟩
 ·rcases List.mem_append.1 hh with hh | hh
  ·exact hF h hh
  ·exact r.ok h hh
 ·rcases List.mem_append.1 hh with hh | hh
  ·exact .inr (Nat.le_trans hext.size (hFC b ⟨h,hh,HO.fp_of_fpx hb⟩).2)
  ·exact r.old h hh b hb
 ·rcases List.mem_append.1 hh with hh | hh
  ·exact (hFC _ ⟨h,hh,hb⟩).1 ((hC _).2 (.inl ⟨j,hj,rfl⟩))
  ·exact r.bh j hj h hh hb
 ·rcases List.mem_cons.1 hx with rfl | hx
  ·exact hl
  ·exact r.kok x hx
 ·rcases List.mem_cons.1 hx with rfl | hx
  ·exact hlo
  ·exact r.kold x hx
 ·rcases List.mem_cons.1 hx with rfl | hx
  ·rcases List.mem_append.1 hh with hh | hh
   ·exact (hFC _ ⟨h,hh,hb⟩).1 ((hC _).2 (.inr (.inr rfl)))
   ·exact hlh h hh hb
  ·rcases List.mem_append.1 hh with hh | hh
   ·have:=(hFC _ ⟨h,hh,hb⟩).2
    have:=hks x hx
    omega
   ·exact r.kh x hx h hh hb
 ·rcases List.mem_cons.1 hx with rfl | hx
  ·exact hlb
  ·exact r.kb x hx
theorem round_end {w0:Base} {bs bs3:Nat → Nat} {ks ks3:List (Nat × Obj)} {L L3:List Box} {H F H3 H4:List HO} {v w3:World} {l n:Nat} {o o':Obj} {C R:Nat → Prop} (hn:L.length = n) (hC:∀ b,C b ↔ ownC bs L H l b) (hR:∀ b,R b ↔ ownR ks H b) (hFx:∀ h ∈ F,∀ b,¬ h.fpx b)
  (hkl:∀ x ∈ ks,x.1 ≠ l) (r3:Rel w0 bs3 ks3 L3 H3 w3) (hks3:∀ x ∈ (l,o) :: ks,x ∈ ks3) (hag:∀ j,j < L.length → bs3 j = bs j) (hle:L.length ≤ L3.length) (hkC:Keep C v w3) (hfp:∀ b,fps H3 b → fps (F ++ H) b ∨ v.heap.size ≤ b) (hfx:∀ b,fpsx H3 b → fpsx (F ++ H) b ∨ v.heap.size ≤ b) (hi:HImp w0 H3 H4):
  ∃ (C2 R2:Nat → Prop),Keep C v (w3.putObj l o') ∧ (∀ b,C2 b → C b ∨ v.heap.size ≤ b) ∧ (∀ b,R2 b → R b ∨ fps F b ∨ C b ∨ v.heap.size ≤ b) ∧ RelS w0 bs ks (L3.take n) H4 (w3.putObj l o') ∧ (L3.take n).length = n ∧ (w3.putObj l o').heap[l]? = some o' ∧ (∀ j,j < n → l ≠ bs j) ∧ (∀ h ∈ H4,¬ h.fp l) ∧
   (∀ b,C2 b ↔ ownC bs (L3.take n) H4 l b) ∧ (∀ b,R2 b ↔ ownR ks H4 b):=by
 have hlen:(L3.take n).length = n:=by simp; omega
 have r4:Rel w0 bs ((l,o) :: ks) (L3.take n) H4 w3:=(((r3.take n).imp hi).dropK hks3).agree fun j hj=>(hag j (by omega)).symm
 have hl0:=r4.kok (l,o) List.mem_cons_self
 have hlt:=lt_of_heap hl0
 have r5:=(r4.dropK (ks':=ks) fun x hx=>List.mem_cons_of_mem _ hx).putK (o:=o') hlt (r4.kold _ List.mem_cons_self) (r4.kb (l,o) List.mem_cons_self) (r4.kh (l,o) List.mem_cons_self) hkl
 have fx:∀ b,fpsx H4 b → C b ∨ v.heap.size ≤ b:=by
  intro b hb
  rcases hfx b ((hi w3 r3.hp).2.2 b hb) with x | x
  ·rcases fpsx_append x with ⟨h,hh,hx⟩ | x
   ·exact absurd hx (hFx h hh b)
   ·exact .inl ((hC b).2 (.inr (.inl x)))
  ·exact .inr x
 refine ⟨ownC bs (L3.take n) H4 l,ownR ks H4,?_,?_,?_,(r5.dropK fun x hx=>List.mem_cons_of_mem _ hx).part,hlen,r5.kok _ List.mem_cons_self,fun j hj=>r4.kb (l,o) List.mem_cons_self j (by omega),r4.kh (l,o) List.mem_cons_self,fun _=>Iff.rfl,fun _=>Iff.rfl⟩
 ·exact (putObj_keep o').into hkC fun b e=>.inl ((hC b).2 (.inr (.inr e)))
 ·rintro b (⟨j,hj,rfl⟩ | hb | rfl)
  ·exact .inl ((hC _).2 (.inl ⟨j,by omega,rfl⟩))
  ·exact fx b hb
  ·exact .inl ((hC _).2 (.inr (.inr rfl)))
 ·rintro b (hb | ⟨x,hx,rfl⟩)
  ·rcases hfp b ((hi w3 r3.hp).2.1 b hb) with x | x
   ·rcases fps_append x with x | x
    ·exact .inr (.inl x)
    ·exact .inl ((hR b).2 (.inl x))
   ·exact .inr (.inr (.inr x))
  ·exact .inl ((hR _).2 (.inr ⟨x,hx,rfl⟩))
theorem invoke_run {P:Program} {gf:Nat} (hT:CallT P gf) {first cap:Array Value} {a:Act} {g:Operand} (hg:a.eval g = .func (.func gf) first cap) (l:Nat) (w:World):
  ∃ d,(resolve a.eval (rangeCall g l) 0).run P w = .ok d w ∧ (invoke d.target d.args).run P w = .ok (.enter gf (first.toList ++ [Value.func (.yield l) #[] #[]] ++ cap.toList).toArray) w:=by
 refine ⟨{ target:=.fn (.func gf) cap,args:=first ++ #[.func (.yield l) #[] #[]] },?_,?_⟩
 ·simp only [resolve,hg,Deferred.ofValue]
  simp [Act.eval]
 ·simp only [invoke]
  rw [hT]
  congr 2
  apply Array.ext'
  simp
theorem pairwise_apart {H:List HO} (h:H.Pairwise Apart) {x y:HO} (hx:x ∈ H) (hy:y ∈ H) (hne:x ≠ y):Apart x y:=by
 obtain ⟨i,hi,rfl⟩:=List.getElem_of_mem hx
 obtain ⟨j,hj,rfl⟩:=List.getElem_of_mem hy
 have hij:i ≠ j:=fun e=>hne (by subst e; rfl)
 rcases Nat.lt_or_gt_of_ne hij with h1 | h1
 ·exact List.pairwise_iff_getElem.1 h i j hi hj h1
 ·exact (List.pairwise_iff_getElem.1 h j i hj hi h1).symm
theorem range_sound {E:Env} {assign body:Code} {Ba Bb:XSt → St} (hBa:∀ Q fr L H,Ba Q fr L H → Wp E assign Q fr L H) (hBb:∀ Q fr L H,Bb Q fr L H → Wp E body Q fr L H) {g:Operand} {ps:Array Tmp} {Q:XSt} {fr:List SV} {L:List Box} {H:List HO}
  (h:RangeOb E.P E.w0 Ba Bb (op1 fr g) ps.toList Q fr L H):Wp E (.rangeFunc g ps assign body) Q fr L H:=by
 intro rd bs ks ms w r hf hm hrd
 unfold RangeOb at h
 split at h
 case h_2=>exact h.elim
 rename_i gf first cap hg
 obtain ⟨hT,n,arg,A,Hc,I,Aw,Rs,NS,hNS,hdec,himp,hAw,hRs,hiter,hI0,hvs,hround,hafter⟩:=h
 refine wpIn_rangeFunc fun fn _=>?_
 obtain ⟨l,mark,w1,ms1,ks1,df,hrun,hmark,hm1,hmr,hks,r1,hkl,hlw,hk01⟩:=enter_run (P:=E.P) r hm hrd fn (rf bs fr) ps assign body
 have hgv:({ tmps:=rf bs fr,defers:=ms.map mkD }:Act).eval g = .func (.func gf) first cap:=by rw [op1_real,hg]; rfl
 obtain ⟨d,hres,hinv⟩:=invoke_run (P:=E.P) hT hgv l w1
 refine ⟨l,mark,w1,d,w1,gf,_,w1,hrun,hres,fun _ _=>trivial,hinv,(fun h=>by simp [fence,Fence.wide] at h),fence_calls ?_⟩
 have r1c:=r1.imp himp
 have hl1:=r1.kok (l,_) List.mem_cons_self
 have hl1b:=r1.kb (l,_) List.mem_cons_self
 have hlold:=r1.kold (l,_) List.mem_cons_self
 have rc:Rel E.w0 bs ks1 L Hc w1:=(r1c.imp (HImp.sub (List.sublist_append_right A Hc))).dropK fun x hx=>List.mem_cons_of_mem _ hx
 have hApx:∀ b,fpsx A b → E.w0.X b ∨ E.w0.w.heap.size ≤ b:=fun b ⟨x,hx,hb⟩=>r1c.hp.old x (by simp [hx]) b hb
 let rc0:=rec0 fn (rf bs fr) ps assign body df
 let Qx:X → List Box → List HO → Prop:=fun x L' H'=>Q x fr L' H'
 let J:=JSt E.w0 bs ks1 L.length l rc0 I Qx
 have hndA:=List.pairwise_append.1 r1c.hp.nd
 have hCA:∀ b,ownC bs L Hc l b ∨ Aw b → E.w0.X b ∨ E.w0.w.heap.size ≤ b:=by
  rintro b ((⟨j,hj,rfl⟩ | ⟨x,hx,hb⟩ | rfl) | hb)
  ·exact .inr (r1.bold j hj)
  ·exact rc.hp.old x hx b hb
  ·exact .inr hlold
  ·exact hApx b (hAw b hb)
 have hhand:Handler E.P l n arg w1 (ownC bs L Hc l) Aw J:=by
  refine ⟨?_,?_,?_⟩
  ·rintro st C R wa wb hs hlt ⟨L',H',hn,hr,hlb,hlh,hC,hR,hst⟩
   have hs':SameOn (fun b=>ownC bs L' H' l b ∨ ownR ks1 H' b) wa wb:=⟨hs.size,fun b hb=>hs.same b (hb.imp (hC b).2 (hR b).2)⟩
   refine ⟨L',H',hn,hr.stable hs',hlb,hlh,hC,hR,?_⟩
   have hl:=hs'.same l (.inl (.inr (.inr rfl)))
   cases st with
   | some k=>exact ⟨hl.trans hst.1,hst.2⟩
   | none=>
    obtain ⟨x,hx,h1,h2⟩:=hst
    exact ⟨x,hx,hl.trans h1,h2⟩
  ·rintro st C R wa ⟨L',H',hn,hr,hlb,hlh,hC,hR,hst⟩ b hb
   have hb':=hb.imp (hC b).1 (hR b).1
   cases st with
   | some k=>exact hr.ltC hst.1 hb'
   | none=>
    obtain ⟨x,hx,h1,h2⟩:=hst
    exact hr.ltC h1 hb'
  ·rintro k C R vs F v hk ⟨L',H',hn,hr,hlb,hlh,hC,hR,hlv,hI⟩ harg hF hFx hFC hFn hkeep
   have hlen:=hvs k vs F harg
   have hks1:∀ x ∈ ks1,x.1 < w1.heap.size:=fun x hx=>lt_of_heap (r1.kok x (List.mem_cons_of_mem _ hx))
   have hrel:=round_rel hr hlv (by rw [hn]; exact hlb) hlh hC hF hFx hFC hFn hkeep r1.hp.ext hCA hks1 hkl hlold
   have hW:=hBa _ _ _ _ (hround k vs F L' H' hk harg hn hI) (some l) bs ((l,.loop (rc0 .ready none)) :: ks1) [] v hrel (setPs_wf _ _ _ (hf.le (by omega))) ⟨List.nodup_nil,fun x hx=>by cases hx⟩ (fun l' hl'=>by cases hl'; exact ⟨_,List.mem_cons_self⟩)
   refine ⟨_,_,_,_,run_yield hlv (by simp [rc0,rec0,hlen]),roundIn_of_wpIn trivial ?_⟩
   have htm:(((rc0 .ready none).params.zip vs.toArray).foldl (fun tmps (x:Tmp × Value)=>tmps.setIfInBounds x.1 x.2) (rc0 .ready none).tmps) = rf bs (setPs fr ps.toList vs):=by
    have:=setPs_rf bs ps.toList vs fr (by simpa using hlen.symm)
    simpa [rc0,rec0] using this
   rw [show (((rc0 .ready none).params.zip vs.toArray).foldl (fun tmps x=>match x with | (t,a)=>tmps.setIfInBounds t a) (rc0 .ready none).tmps) = rf bs (setPs fr ps.toList vs) from htm]
   refine wpIn_mono hW fun e a wa hp=>?_
   obtain ⟨x,fr2,bs2,ks2,ms2,L2,H2,rfl,rfl,hq,hf2,hc2,hks2,hm2,hmr2,hr2⟩:=hp
   cases x with
   | ext i=>exact hq.elim
   | ret=>exact hq.elim
   | nxt=>
    have hms2:=hmr2 rfl
    subst hms2
    have hl2:=hr2.kok _ (hks2 _ List.mem_cons_self)
    refine ⟨_,run_beginRound hl2 rfl,?_⟩
    have hr3:Rel E.w0 bs2 ((l,.loop (rc0 .busy none)) :: ks1) L2 H2 (wa.putObj l (.loop (rc0 .busy none))):=
     (hr2.dropK (ks':=ks1) fun x hx=>hks2 x (List.mem_cons_of_mem _ hx)).putK (lt_of_heap hl2) hlold (hr2.kb _ (hks2 _ List.mem_cons_self)) (hr2.kh _ (hks2 _ List.mem_cons_self)) hkl
    have hW2:=hBb _ _ _ _ hq (some l) bs2 ((l,.loop (rc0 .busy none)) :: ks1) [] _ hr3 hf2 ⟨List.nodup_nil,fun x hx=>by cases hx⟩ (fun l' hl'=>by cases hl'; exact ⟨_,List.mem_cons_self⟩)
    refine wpIn_mono hW2 fun e a wb hp=>?_
    obtain ⟨x,fr3,bs3,ks3,ms3,L3,H3,rfl,rfl,hq3,hf3,hc3,hks3,hm3,hmr3,hr3'⟩:=hp
    have hl3:=hr3'.kok _ (hks3 _ List.mem_cons_self)
    -- the whole round's step,from v1 (v with the record busy) on
    have hv1:Keep (fun b=>C b) v (wa.putObj l (.loop (rc0 .busy none))):=by
     refine (putObj_keep _).into (hc2.frm.keep.into (Keep.refl _ v) fun b hb=>?_) fun b e=>.inl ((hC b).2 (.inr (.inr e)))
     rcases hb with hb | ⟨j,hj,rfl⟩
     ·rcases fpsx_append hb with ⟨h,hh,hx⟩ | x
      ·exact absurd hx (hFx h hh b)
      ·exact .inl ((hC b).2 (.inr (.inl x)))
     ·exact .inl ((hC _).2 (.inl ⟨j,hj,rfl⟩))
    have h2:=hc2.frm
    have h3:=hc3.frm
    have hsz2:=h2.keep.size
    have toC:∀ b,fpsx (F ++ H') b → C b:=fun b hb=>by
     rcases fpsx_append hb with ⟨h,hh,hx⟩ | x
     ·exact absurd hx (hFx h hh b)
     ·exact (hC b).2 (.inr (.inl x))
    have hkC:Keep C v wb:=by
     refine h3.keep.into hv1 fun b hb=>?_
     rcases hb with hb | ⟨j,hj,rfl⟩
     ·rcases h2.fx b hb with x | x
      ·exact .inl (toC b x)
      ·exact .inr x
     ·rcases h2.bx j hj with ⟨i,hi,e⟩ | x
      ·exact .inl ((hC _).2 (.inl ⟨i,hi,e⟩))
      ·exact .inr x
    have hfp:∀ b,fps H3 b → fps (F ++ H') b ∨ v.heap.size ≤ b:=fun b hb=>by
     rcases h3.fp b hb with x | x
     ·exact h2.fp b x
     ·exact .inr (by simp at x; omega)
    have hfx:∀ b,fpsx H3 b → fpsx (F ++ H') b ∨ v.heap.size ≤ b:=fun b hb=>by
     rcases h3.fx b hb with x | x
     ·exact h2.fx b x
     ·exact .inr (by simp at x; omega)
    have hag:∀ j,j < L'.length → bs3 j = bs j:=fun j hj=>(hc3.agree j (Nat.lt_of_lt_of_le hj hc2.le)).trans (hc2.agree j hj)
    have hle:L'.length ≤ L3.length:=Nat.le_trans hc2.le hc3.le
    cases x with
    | nxt=>
     obtain ⟨H4,himp4,hI4⟩:=hq3
     obtain ⟨C2,R2,e1,e2,e3,e4,e5,e6,e7,e8,e9,e10⟩:=round_end (o':=.loop (rc0 .ready none)) hn hC hR hFx hkl hr3' hks3 hag hle hkC hfp hfx himp4
     exact ⟨_,_,run_endRound none hl3,true,C2,R2,rfl,e1,e2,e3,_,H4,e5,e4,e7,e8,e9,e10,e6,hI4⟩
    | ext i=>
     obtain ⟨H4,himp4,hQ4⟩:=hq3
     obtain ⟨C2,R2,e1,e2,e3,e4,e5,e6,e7,e8,e9,e10⟩:=round_end (o':=.loop (rc0 .done (some (.exit i)))) hn hC hR hFx hkl hr3' hks3 hag hle hkC hfp hfx himp4
     exact ⟨_,_,run_endRound (some (.exit i)) hl3,false,C2,R2,rfl,e1,e2,e3,_,H4,e5,e4,e7,e8,e9,e10,.ext i,(fun h=>by cases h),e6,hQ4⟩
    | ret=>
     obtain ⟨H4,himp4,hQ4⟩:=hq3
     obtain ⟨C2,R2,e1,e2,e3,e4,e5,e6,e7,e8,e9,e10⟩:=round_end (o':=.loop (rc0 .done (some .ret))) hn hC hR hFx hkl hr3' hks3 hag hle hkC hfp hfx himp4
     exact ⟨_,_,run_endRound (some .ret) hl3,false,C2,R2,rfl,e1,e2,e3,_,H4,e5,e4,e7,e8,e9,e10,.ret,(fun h=>by cases h),e6,hQ4⟩
 have hJ0:J (some 0) (ownC bs L Hc l) (ownR ks1 Hc) w1:=⟨L,Hc,rfl,rc.part,hl1b,fun h hh=>r1c.kh (l,_) List.mem_cons_self h (by simp [hh]),fun _=>Iff.rfl,fun _=>Iff.rfl,hl1,hI0⟩
 have hAd:∀ b,fpsx A b → ¬ ownC bs L Hc l b ∧ ¬ ownR ks1 Hc b:=by
  rintro b ⟨x,hx,hb⟩
  refine ⟨?_,?_⟩
  ·rintro (⟨j,hj,rfl⟩ | ⟨y,hy,hyb⟩ | rfl)
   ·exact r1c.bh j hj x (by simp [hx]) (HO.fp_of_fpx hb)
   ·exact (hndA.2.2 x hx y hy b (HO.fp_of_fpx hb) (HO.fp_of_fpx hyb)).1 hb
   ·exact r1c.kh (b,_) List.mem_cons_self x (by simp [hx]) (HO.fp_of_fpx hb)
  ·rintro (⟨y,hy,hyb⟩ | ⟨y,hy,rfl⟩)
   ·exact (hndA.2.2 x hx y hy b (HO.fp_of_fpx hb) hyb).1 hb
   ·exact r1c.kh y (List.mem_cons_of_mem _ hy) x (by simp [hx]) (HO.fp_of_fpx hb)
 have hRd:∀ b,Rs b → ¬ ownC bs L Hc l b:=fun b hb hc=>by
  rcases hRs b hb with ⟨h1,h2⟩ | h1 | ⟨g,hg,hgb⟩
  ·rcases hCA b (.inl hc) with x | x
   ·exact h2 x
   ·omega
  ·exact (hAd b h1).1 hc
  ·have hgf:(HO.ro g).fp b:=hgb
   rcases hc with ⟨j,hj,e⟩ | ⟨y,hy,hyb⟩ | e
   ·exact rc.bh j hj _ hg (by first | (rw [← e]; exact hgf) | (rw [e]; exact hgf) | (subst e; exact hgf))
   ·by_cases hyg:y = HO.ro g
    ·subst hyg
     exact hyb.elim
    ·exact (pairwise_apart rc.hp.nd hy hg hyg b (HO.fp_of_fpx hyb) hgf).1 hyb
   ·subst e
    exact r1c.kh (b,_) List.mem_cons_self _ (List.mem_append_right _ hg) hgf
 have hsh:ShareJ NS J:=by
  refine ⟨?_,?_⟩
  ·rintro k C R wa ⟨L',H',hn,hr,hlb,hlh,hC,hR,hlv,hI⟩
   obtain ⟨S,B,hS,rfl,_⟩:=hdec k L' H' hI
   exact ⟨S,hS,fun h hh=>hr.ok h (List.mem_append_left _ hh),fun b hb=>by
    obtain ⟨g,hg,hgb⟩:=hb
    exact (hC b).2 (.inr (.inl ⟨g,List.mem_append_left _ hg,hNS.fx S hS g hg b hgb⟩))⟩
  ·rintro k C R wa wb S S' ⟨L',H',hn,hr,hlb,hlh,hC,hR,hlv,hI⟩ hS hSok hS' hS'ok hk
   obtain ⟨S0,B,h0,rfl,hdec'⟩:=hdec k L' H' hI
   obtain ⟨hr',hf,hfx⟩:=hr.share hNS h0 hS hS' hS'ok hk
   refine ⟨L',S' ++ B,hn,hr',hlb,fun h hh hb=>?_,fun b=>?_,fun b=>?_,?_,hdec' S' hS'⟩
   ·obtain ⟨g,hg,hgb⟩:=(hf l).1 ⟨h,hh,hb⟩
    exact hlh g hg hgb
   ·rw [hC b]
    unfold ownC
    rw [hfx b]
   ·rw [hR b]
    unfold ownR
    rw [hf b]
   ·rw [hk.block l (lt_of_heap hlv) fun hs=>by
     obtain ⟨g,hg,hgb⟩:=hNS.same S0 S h0 hS l hs
     exact hlh g (List.mem_append_left _ hg) hgb]
    exact hlv
 refine Calls.mono (hiter w1 r1c.hp l J _ _ hhand hJ0 (fun b hb=>hAd b (hAw b hb)) hRd hsh) fun e w2 he=>?_
 obtain ⟨st,C2,R2,rfl,hk2,hC2,hR2,hst,L',H',hn,hr,hlb,hlh,hCiff,hRiff,hend⟩:=he
 have himp1:=himp w1 r1.hp
 have fxH:∀ b,ownC bs L Hc l b → fpsx H b ∨ (∃ j,j < L.length ∧ b = bs j) ∨ b = l:=by
  rintro b (⟨j,hj,rfl⟩ | hb | rfl)
  ·exact .inr (.inl ⟨j,hj,rfl⟩)
  ·exact .inl (himp1.2.2 b (by obtain ⟨y,hy,hyb⟩:=hb; exact ⟨y,by simp [hy],hyb⟩))
  ·exact .inr (.inr rfl)
 -- behind the function's return: the record is shut
 have close:∀ (st':LoopState) (pd:Option Code),w2.heap[l]? = some (.loop (rc0 st' pd)) → st' ≠ .busy → ∃ w3,(Instr.endLoop l).run E.P w2 = .ok pd w3 ∧ Rel E.w0 bs ks1 L' H' w3 ∧ Come bs bs L L' H H' w w3:=by
  intro st' pd hl2 hb
  have hr2:Rel E.w0 bs ks1 L' H' w2:=hr.whole (hk2.into r1.hp.ext hCA)
  have hr3:=hr2.putK (o:=.loop (rc0 .exhausted pd)) (lt_of_heap hl2) hlold (by rw [hn]; exact hlb) hlh hkl
  refine ⟨_,run_endLoop hl2 hb,hr3.dropK fun x hx=>List.mem_cons_of_mem _ hx,fun _ _=>rfl,by omega,?_,fun b hb=>?_,fun b hb=>?_,fun j hj=>.inl ⟨j,by omega,rfl⟩⟩
  ·refine (putObj_keep _).into (M:=fun b=>b = l) (hk2.into (hk01.mono fun _ h=>h.elim) fun b hb=>?_) fun b e=>.inr (e ▸ hlw)
   rcases hb with hb | hb
   ·rcases fxH b hb with x | x | rfl
    ·exact .inl (.inl x)
    ·exact .inl (.inr x)
    ·exact .inr hlw
   ·exact .inl (.inl (himp1.2.2 b (by obtain ⟨y,hy,hyb⟩:=hAw b hb; exact ⟨y,by simp [hy],hyb⟩)))
  ·rcases hR2 b ((hRiff b).2 (.inl hb)) with (hb' | ⟨x,hx,rfl⟩) | hb' | x
   ·exact .inl (himp1.2.1 b (by obtain ⟨y,hy,hyb⟩:=hb'; exact ⟨y,by simp [hy],hyb⟩))
   ·obtain ⟨y,hy,hyb⟩:=hb
    exact absurd hyb (hr.kh x hx y hy)
   ·rcases fxH b hb' with x | ⟨j,hj,rfl⟩ | rfl
    ·exact .inl (fps_of_fpsx x)
    ·obtain ⟨y,hy,hyb⟩:=hb
     exact absurd hyb (hr.bh j (by omega) y hy)
    ·exact .inr hlw
   ·have:=hk01.size
    exact .inr (by omega)
  ·rcases hC2 b ((hCiff b).2 (.inr (.inl hb))) with hb' | x
   ·rcases fxH b hb' with x | ⟨j,hj,rfl⟩ | rfl
    ·exact .inl x
    ·obtain ⟨y,hy,hyb⟩:=hb
     exact absurd (HO.fp_of_fpx hyb) (hr.bh j (by omega) y hy)
    ·exact .inr hlw
   ·have:=hk01.size
    exact .inr (by omega)
 have hwf:WfFr L'.length fr:=hf.le (by omega)
 simp only [rangePost,hmark]
 rcases hst with rfl | rfl
 ·obtain ⟨hl2,hI2⟩:=hend
  obtain ⟨w3,hrun3,hr3,hc3⟩:=close _ _ hl2 (by simp)
  exact ⟨none,w3,hrun3,.nxt,fr,bs,ks1,ms1,L',H',rfl,rfl,hafter L' H' hn hI2,hwf,hc3,hks,hm1,hmr,hr3⟩
 ·obtain ⟨x,hx,hl2,hQ2⟩:=hend
  obtain ⟨w3,hrun3,hr3,hc3⟩:=close _ _ hl2 (by simp)
  refine ⟨some x.code,w3,hrun3,?_⟩
  have hpost:PostW E bs L H w ks ms rd Q x.exit { tmps:=rf bs fr,defers:=ms1.map mkD } w3:=⟨x,fr,bs,ks1,ms1,L',H',rfl,rfl,hQ2,hwf,hc3,hks,hm1,hmr,hr3⟩
  cases x with
  | nxt=>exact absurd rfl hx
  | ext i=>exact wpIn_exit hpost
  | ret=>exact wpIn_ret hpost
end Go.SX

namespace Go.SX
open Go.RowKit
def lkO (i:Nat):List (Nat × Plan) → Option Plan
 | []=>none
 | (j,l) :: r=>bif i == j then some l else lkO i r
def planS (E:Env) (o:Option Plan) (ops:List Oper) (fr:List SV) (L:List Box) (H:List HO) (k:List SV → List Box → List HO → Prop):Prop:=
 match o with
 | some p=>execsP E ops p fr L H k
 | none=>execs E true ops ops fr L H k
def planOk (o:Option Plan) (ops:List Oper):Bool:=
 match o with
 | some p=>edgesB ops && planC ops p
 | none=>regB ops (List.range ops.length)
def cndS (fr:List SV) (c:Operand) (yes no:List SV → Prop):Prop:=
 match op1 fr c with
 | .b t=>bif t then yes fr else no fr
 | .v (.bool t)=>match c with
  | .tmp d=>(t = true → yes (fset fr d (.b true))) ∧ (t = false → no (fset fr d (.b false)))
  | _=>(t = true → yes fr) ∧ (t = false → no fr)
 | _=>False
def seqQ (K:St) (Q:XSt):XSt:=fun x=>
 match x with
 | .nxt=>K
 | .ext i=>Q (.ext i)
 | .ret=>Q .ret
def blkQ (id:Nat) (Q:XSt):XSt:=fun x=>
 match x with
 | .nxt=>Q .nxt
 | .ext i=>bif i == id then Q .nxt else Q (.ext i)
 | .ret=>Q .ret
def headR:Code → Nat
 | .region id _ _=>2 * id
 | .seq a _=>headR a
 | .block _ a=>headR a
 | .loop a=>headR a
 | _=>1000000
def tailR:Code → Nat
 | .region id _ _=>2 * id + 1
 | .seq _ b=>tailR b
 | _=>1000000
def inCut (i:Nat):List Nat → Bool
 | []=>false
 | j :: l=>bif i == j then true else inCut i l
def cutL:List Nat → Code → Code → Bool
 | [],_,_=>false
 | l,a,b=>inCut (headR b) l || inCut (tailR a) l
def cutQ {σ:Type} (w0:Base) (wr:List (Nat × Nat)) (enc:σ → List (Nat × Value)) (Lf:σ → List Box) (Inv:σ → List HO → Prop) (fr:List SV) (n:Nat) (Q:XSt):XSt:=fun x fr' L' H'=>
 match x with
 | .nxt=>∃ s' H2,fits 0 wr (enc s') fr fr' ∧ L'.take n = Lf s' ∧ HImp w0 H' H2 ∧ Inv s' H2
 | .ext i=>Q (.ext i) fr' L' H'
 | .ret=>Q .ret fr' L' H'
def CutOb (w0:Base) (B:XSt → St) (K:St) (Q:XSt) (fr:List SV) (L:List Box) (H:List HO):Prop:=
 ∃ (σ:Type) (wr:List (Nat × Nat)) (enc:σ → List (Nat × Value)) (Lf:σ → List Box) (Inv:σ → List HO → Prop),(∀ s,(Lf s).length = L.length) ∧
  B (cutQ w0 wr enc Lf Inv fr L.length Q) fr L H ∧ ∀ s H1 g,Inv s H1 → K (hv 0 wr (enc s) g fr) (Lf s) H1
def noGo (Q:Exit → Act → World → Prop):Exit → Act → World → Prop
 | .goto _,_,_=>False
 | e,a,w=>Q e a w
theorem stepR_scope {P:Program} {b:Frame} {a:Act} {k:List Item} {cs:List Frame} {w:World} {c:Code}:step P (lone (b.atR a (.code (.scope c) :: k)) cs w) = .next (lone (b.atR a (.code c :: .inScope c :: k)) cs w):=
 step_lone_go (by simp [stepG,stepG.exec,Frame.atR])
theorem stepR_inScope {P:Program} {b:Frame} {a:Act} {k:List Item} {cs:List Frame} {w:World} {c:Code}:step P (lone (b.atR a (.inScope c :: k)) cs w) = .next (lone (b.atR a k) cs w):=
 step_lone_go (by simp [stepG,stepG.exec,Frame.atR])
theorem wpIn_scope {F:Fence} {n:Nat} {P:Program} {Q:Exit → Act → World → Prop} {a:Act} {w:World} {c:Code} (h:c.wpIn F n P (noGo Q) a w):(Code.scope c).wpIn F n P Q a w:=by
 intro b k cs hro hb hr
 have h0:(lone (b.atR a (.code (.scope c) :: k)) cs w).fenced P F:=fenced_calm hb hr rfl
 obtain ⟨e,a₁,w₁,hq,harr⟩:=h b (.inScope c :: k) cs hro hb hr
 cases e with
 | normal=>exact ⟨.normal,a₁,w₁,hq,.head h0 stepR_scope (StepsIn.trans harr (.one (fenced_calm hb hr rfl) stepR_inScope))⟩
 | exit id=>
  have hx:exitTo id (.inScope c :: k) = exitTo id k:=by simp [exitTo]
  exact ⟨.exit id,a₁,w₁,hq,fun k' hk=>.head h0 stepR_scope (harr.1 k' (by rw [hx]; exact hk)),
   fun hr' hk=>let ⟨k₁,h1,h2⟩:=harr.2 hr' (by rw [hx]; exact hk); ⟨k₁,h1,.head h0 stepR_scope h2⟩⟩
 | goto l=>exact hq.elim
 | ret=>exact ⟨_,a₁,w₁,hq,.of_steps (.one h0 stepR_scope) harr⟩
 | panic ch=>exact ⟨_,a₁,w₁,hq,.of_steps (.one h0 stepR_scope) harr⟩
 | outgrown=>exact ⟨_,a₁,w₁,hq,.of_steps (.one h0 stepR_scope) harr⟩
def W (E:Env):Code → XSt → St
 | .skip,Q,fr,L,H=>Q .nxt fr L H
 | .ret,Q,fr,L,H=>Q .ret fr L H
 | .exit i,Q,fr,L,H=>Q (.ext i) fr L H
 | .seq a b,Q,fr,L,H=>bif cutL E.cuts a b then CutOb E.w0 (W E a) (W E b Q) Q fr L H else W E a (seqQ (W E b Q) Q) fr L H
 | .block id a,Q,fr,L,H=>W E a (blkQ id Q) fr L H
 | .region id ops draw,Q,fr,L,H=>bif draw then planS E (lkO id E.ord) ops.toList fr L H (Q .nxt) else execs E false ops.toList ops.toList fr L H (Q .nxt)
 | .cond c a b,Q,fr,L,H=>cndS fr c (fun fr=>W E a Q fr L H) (fun fr=>W E b Q fr L H)
 | .loop body,Q,fr,L,H=>LoopOb E.w0 (W E body) Q fr L H
 | .rangeFunc g ps assign body,Q,fr,L,H=>RangeOb E.P E.w0 (W E assign) (W E body) (op1 fr g) ps.toList Q fr L H
 | .scope a,Q,fr,L,H=>W E a Q fr L H
 | .label _,Q,fr,L,H=>Q .nxt fr L H
 | _,_,_,_,_=>False
def codeB (ord:List (Nat × Plan)):Code → Bool
 | .seq a b=>codeB ord a && codeB ord b
 | .block _ a=>codeB ord a
 | .region id ops draw=>!draw || planOk (lkO id ord) ops.toList
 | .cond _ a b=>codeB ord a && codeB ord b
 | .loop a=>codeB ord a
 | .rangeFunc _ _ a b=>codeB ord a && codeB ord b
 | .scope a=>codeB ord a
 | _=>true
theorem pick_range {α:Type} (l:List α):(List.range l.length).filterMap (l[·]?) = l:=by
 induction l with
 | nil=>rfl
 | cons x l ih=>
  rw [List.length_cons,List.range_succ_eq_map,List.filterMap_cons]
  simp only [List.getElem?_cons_zero,List.filterMap_map]
  congr 1
theorem post_mono {E:Env} {bs:Nat → Nat} {L:List Box} {H:List HO} {w:World} {ks:List (Nat × Obj)} {ms:List Nat} {rd:Option Nat} {Q:XSt} {bs1:Nat → Nat} {L1:List Box} {H1:List HO} {w1:World} {ks1:List (Nat × Obj)} {ms1:List Nat}
  (hc:Come bs bs1 L L1 H H1 w w1) (hks:∀ y ∈ ks,y ∈ ks1) (hmr:rd.isSome = true → ms1 = ms) {e:Exit} {a:Act} {w':World} (h:PostW E bs1 L1 H1 w1 ks1 ms1 rd Q e a w'):PostW E bs L H w ks ms rd Q e a w':=by
 obtain ⟨x,fr',bs2,ks2,ms2,L2,H2,rfl,rfl,hq,hf2,hc2,hks2,hm2,hmr2,hr2⟩:=h
 exact ⟨x,fr',bs2,ks2,ms2,L2,H2,rfl,rfl,hq,hf2,hc.trans hc2,fun y hy=>hks2 y (hks y hy),hm2,fun h=>(hmr2 h).trans (hmr h),hr2⟩
theorem Wp.feq {E:Env} {c:Code} {Q:XSt} {fr fr':List SV} {L:List Box} {H:List HO} (h:Wp E c Q fr' L H) (he:FEq fr' fr) (hw:∀ n,WfFr n fr → WfFr n fr'):Wp E c Q fr L H:=by
 intro rd bs ks ms w r hf hm hrd
 rw [← he.rf bs]
 exact h rd bs ks ms w r (hw _ hf) hm hrd
def Env.Mixed (E:Env):Prop:=E.P.follows .mixedOrders = true
theorem W_sound {E:Env} (hE:E.Fine) (hD:E.DetOk) (hM:E.Mixed):∀ (c:Code) (Q:XSt) (fr:List SV) (L:List Box) (H:List HO),codeB E.ord c = true → W E c Q fr L H → Wp E c Q fr L H
 | .skip,Q,fr,L,H,_,h=>fun rd bs ks ms w r hf hm hrd=>wpIn_skip ⟨.nxt,fr,bs,ks,ms,L,H,rfl,rfl,h,hf,Come.refl _ _ _ _,fun _ h=>h,hm,fun _=>rfl,r⟩
 | .ret,Q,fr,L,H,_,h=>fun rd bs ks ms w r hf hm hrd=>wpIn_ret ⟨.ret,fr,bs,ks,ms,L,H,rfl,rfl,h,hf,Come.refl _ _ _ _,fun _ h=>h,hm,fun _=>rfl,r⟩
 | .exit i,Q,fr,L,H,_,h=>fun rd bs ks ms w r hf hm hrd=>wpIn_exit ⟨.ext i,fr,bs,ks,ms,L,H,rfl,rfl,h,hf,Come.refl _ _ _ _,fun _ h=>h,hm,fun _=>rfl,r⟩
 | .seq a b,Q,fr,L,H,hc,h=>by
  simp only [codeB,Bool.and_eq_true] at hc
  simp only [W] at h
  cases hcut:cutL E.cuts a b with
  | false=>
   rw [hcut] at h
   simp only [cond_false] at h
   have ha:=W_sound hE hD hM a _ fr L H hc.1 h
   intro rd bs ks ms w r hf hm hrd
   refine wpIn_seq (wpIn_mono (ha rd bs ks ms w r hf hm hrd) fun e a1 w1 hp=>?_)
   obtain ⟨x,fr',bs1,ks1,ms1,L1,H1,rfl,rfl,hq,hf1,hc1,hks1,hm1,hmr1,hr1⟩:=hp
   cases x with
   | nxt=>
    have hb:=W_sound hE hD hM b Q fr' L1 H1 hc.2 hq rd bs1 ks1 ms1 w1 hr1 hf1 hm1 fun l hl=>by obtain ⟨r0,h0⟩:=hrd l hl; exact ⟨r0,hks1 _ h0⟩
    exact wpIn_mono hb fun e a2 w2 hp=>post_mono hc1 hks1 hmr1 hp
   | ext i=>exact ⟨.ext i,fr',bs1,ks1,ms1,L1,H1,rfl,rfl,hq,hf1,hc1,hks1,hm1,hmr1,hr1⟩
   | ret=>exact ⟨.ret,fr',bs1,ks1,ms1,L1,H1,rfl,rfl,hq,hf1,hc1,hks1,hm1,hmr1,hr1⟩
  | true=>
   rw [hcut] at h
   simp only [cond_true] at h
   obtain ⟨σ,wr,enc,Lf,Inv,hlen,hB,hK⟩:=h
   have ha:=W_sound hE hD hM a _ fr L H hc.1 hB
   intro rd bs ks ms w r hf hm hrd
   refine wpIn_seq (wpIn_mono (ha rd bs ks ms w r hf hm hrd) fun e a1 w1 hp=>?_)
   obtain ⟨x,fr',bs1,ks1,ms1,L1,H1,rfl,rfl,hq,hf1,hc1,hks1,hm1,hmr1,hr1⟩:=hp
   cases x with
   | nxt=>
    obtain ⟨s',H2,hfit,hL',himp,hinv⟩:=hq
    have hag:∀ j,j < L.length → bs1 j = bs j:=fun j hj=>hc1.agree j hj
    obtain ⟨g,hg⟩:=fits_rf (bs:=bs) (bs':=bs1) hag hfit hf
    have hr2:Rel E.w0 bs1 ks1 (Lf s') H2 w1:=by rw [← hL']; exact (hr1.take L.length).imp himp
    have hcm:Come bs bs1 L (Lf s') H H2 w w1:=⟨hag,Nat.le_of_eq (hlen s').symm,by rw [← hL']; exact (hc1.frm.take _).imp hr1.hp himp⟩
    have hfl:WfFr (Lf s').length fr:=hf.le (Nat.le_of_eq (hlen s').symm)
    have hb:=W_sound hE hD hM b Q _ (Lf s') H2 hc.2 (hK s' H2 g hinv) rd bs1 ks1 ms1 w1 hr2 (hv_wf fr 0 hfl) hm1 fun l hl=>by obtain ⟨r0,h0⟩:=hrd l hl; exact ⟨r0,hks1 _ h0⟩
    refine wpIn_mono ?_ fun e a2 w2 hp=>post_mono hcm hks1 hmr1 hp
    show Code.wpIn _ _ _ _ _ { tmps:=rf bs1 fr',defers:=_ } _
    rw [hg]
    exact hb
   | ext i=>exact ⟨.ext i,fr',bs1,ks1,ms1,L1,H1,rfl,rfl,hq,hf1,hc1,hks1,hm1,hmr1,hr1⟩
   | ret=>exact ⟨.ret,fr',bs1,ks1,ms1,L1,H1,rfl,rfl,hq,hf1,hc1,hks1,hm1,hmr1,hr1⟩
 | .block id a,Q,fr,L,H,hc,h=>by
  simp only [codeB] at hc
  have ha:=W_sound hE hD hM a _ fr L H hc h
  intro rd bs ks ms w r hf hm hrd
  refine wpIn_block (wpIn_mono (ha rd bs ks ms w r hf hm hrd) fun e a1 w1 hp=>?_)
  obtain ⟨x,fr',bs1,ks1,ms1,L1,H1,rfl,rfl,hq,hf1,hc1,hks1,hm1,hmr1,hr1⟩:=hp
  cases x with
  | nxt=>exact ⟨.nxt,fr',bs1,ks1,ms1,L1,H1,rfl,rfl,hq,hf1,hc1,hks1,hm1,hmr1,hr1⟩
  | ret=>exact ⟨.ret,fr',bs1,ks1,ms1,L1,H1,rfl,rfl,hq,hf1,hc1,hks1,hm1,hmr1,hr1⟩
  | ext i=>
   simp only [blkQ] at hq
   simp only [X.exit,Exit.inBlock]
   by_cases e:i = id
   ·subst e
    simp only [beq_self_eq_true,cond_true] at hq
    simp only [if_true]
    exact ⟨.nxt,fr',bs1,ks1,ms1,L1,H1,rfl,rfl,hq,hf1,hc1,hks1,hm1,hmr1,hr1⟩
   ·have e':(i == id) = false:=by simpa using e
    rw [e'] at hq
    simp only [e,if_false]
    exact ⟨.ext i,fr',bs1,ks1,ms1,L1,H1,rfl,rfl,hq,hf1,hc1,hks1,hm1,hmr1,hr1⟩
 | .region id ops draw,Q,fr,L,H,hc,h=>by
  intro rd bs ks ms w r hf hm hrd
  cases draw with
  | false=>
   simp only [W,cond_false] at h
   refine wpIn_region ?_
   refine execs_sound (dr:=false) hE hD (List.range ops.size) fr fr L H bs w (k:=Q .nxt) ?_ r hf (FEq.refl _) hf fun fr' bs' L' H' w' hk hf' hcm hr=>⟨.nxt,fr',bs',ks,ms,L',H',rfl,rfl,hk,hf',hcm,fun _ h=>h,hm,fun _=>rfl,hr⟩
   have:=pick_range ops.toList
   simp only [Array.length_toList,Array.getElem?_toList] at this
   rw [this]
   exact h
  | true=>
   simp only [W,cond_true] at h
   simp only [codeB,Bool.not_true,Bool.false_or] at hc
   refine wpIn_region_any hM ?_
   have r':=r.drew
   have hcd:Come bs bs L L H H w w.drew:=⟨fun _ _=>rfl,Nat.le_refl _,Frm.new (Keep.drew (Keep.refl _ w)) fun h hh _ _=>.inl hh⟩
   have hq:∀ fr' bs' L' H' w',Q .nxt fr' L' H' → WfFr L'.length fr' → Come bs bs' L L' H H' w w' → Rel E.w0 bs' ks L' H' w' → PostW E bs L H w ks ms rd Q .normal { tmps:=rf bs' fr',defers:=ms.map mkD } w':=
    fun fr' bs' L' H' w' hk hf' hcm hr=>⟨.nxt,fr',bs',ks,ms,L',H',rfl,rfl,hk,hf',hcm,fun _ h=>h,hm,fun _=>rfl,hr⟩
   cases hlk:lkO id E.ord with
   | none=>
    rw [hlk] at h hc
    simp only [planS] at h
    simp only [planOk] at hc
    have hspec:=regB_spec hc
    have hpk:=pick_range ops.toList
    simp only [Array.length_toList,Array.getElem?_toList] at hpk
    refine drawn_sound hE hD hc hq ops.size _ [] (List.range ops.toList.length) fr fr L H bs _ (by simpa using hspec.1)
     ⟨⟨[],rfl,List.Sublist.refl _,fun i hi=>by simp [hi]⟩,by simp,fun j o hj' hj=>by
      have hjl:j < ops.size:=by simpa using (List.getElem?_eq_some_iff.1 hj').1
      simp [hjl] at hj,by simp only [Array.length_toList]; rw [hpk]; exact h,FEq.refl _,r',hf,hf⟩ hcd
   | some p=>
    rw [hlk] at h hc
    simp only [planS] at h
    simp only [planOk,Bool.and_eq_true] at hc
    refine plan_sound hE hD hc.1 hq ops.size _ p [] [] [] [] fr fr L H H bs _ (cnt_le _ _) (by simp) (fun j o hj' hj=>by
      have hjl:j < ops.size:=by simpa using (List.getElem?_eq_some_iff.1 hj').1
      simp [hjl] at hj) hc.2 h ⟨FEq.refl _,hf,by simp,by simp,fun i hi=>by simp [hi],rfl,by simp,fun i hi=>(by cases hi),fun i hi=>(by cases hi),fun a ha=>(by cases ha),by simp,List.Perm.refl _⟩ r' hf hcd
 | .cond c a b,Q,fr,L,H,hc,h=>by
  simp only [codeB,Bool.and_eq_true] at hc
  simp only [W,cndS] at h
  have part:∀ t,op1 fr c = .v (.bool t) → ((t = true → Wp E a Q fr L H) ∧ (t = false → Wp E b Q fr L H)) → Wp E (.cond c a b) Q fr L H:=by
   intro t ht hp rd bs ks ms w r hf hm hrd
   have hev:({ tmps:=rf bs fr,defers:=ms.map mkD }:Act).eval c = .bool t:=by rw [op1_real,ht]; rfl
   cases t with
   | true=>exact wpIn_cond_true hev (hp.1 rfl rd bs ks ms w r hf hm hrd)
   | false=>exact wpIn_cond_false hev (hp.2 rfl rd bs ks ms w r hf hm hrd)
  split at h
  ·rename_i t ht
   intro rd bs ks ms w r hf hm hrd
   have hev:({ tmps:=rf bs fr,defers:=ms.map mkD }:Act).eval c = .bool t:=by rw [op1_real,ht]; rfl
   cases t with
   | true=>exact wpIn_cond_true hev (W_sound hE hD hM a Q fr L H hc.1 h rd bs ks ms w r hf hm hrd)
   | false=>exact wpIn_cond_false hev (W_sound hE hD hM b Q fr L H hc.2 h rd bs ks ms w r hf hm hrd)
  ·rename_i t ht
   refine part t ht ?_
   split at h
   ·rename_i d
    have hfd:fget fr d = .v (.bool t):=ht
    refine ⟨fun e=>?_,fun e=>?_⟩
    ·subst e
     exact (W_sound hE hD hM a Q _ L H hc.1 (h.1 rfl)).feq (FEq.set_self (by simp [hfd,SV.real])) fun n hf=>hf.set (y:=.b true) trivial d
    ·subst e
     exact (W_sound hE hD hM b Q _ L H hc.2 (h.2 rfl)).feq (FEq.set_self (by simp [hfd,SV.real])) fun n hf=>hf.set (y:=.b false) trivial d
   ·exact ⟨fun e=>W_sound hE hD hM a Q fr L H hc.1 (h.1 e),fun e=>W_sound hE hD hM b Q fr L H hc.2 (h.2 e)⟩
  ·exact h.elim
 | .loop body,Q,fr,L,H,hc,h=>by
  simp only [codeB] at hc
  exact loop_sound (fun Q fr L H h=>W_sound hE hD hM body Q fr L H hc h) h
 | .rangeFunc g ps assign body,Q,fr,L,H,hc,h=>by
  simp only [codeB,Bool.and_eq_true] at hc
  exact range_sound (fun Q fr L H h=>W_sound hE hD hM assign Q fr L H hc.1 h) (fun Q fr L H h=>W_sound hE hD hM body Q fr L H hc.2 h) h
 | .goto _,_,_,_,_,_,h=>h.elim
 | .label _,Q,fr,L,H,_,h=>fun rd bs ks ms w r hf hm hrd=>wpIn_label ⟨.nxt,fr,bs,ks,ms,L,H,rfl,rfl,h,hf,Come.refl _ _ _ _,fun _ h=>h,hm,fun _=>rfl,r⟩
 | .scope a,Q,fr,L,H,hc,h=>by
  simp only [codeB] at hc
  have ha:=W_sound hE hD hM a Q fr L H hc h
  intro rd bs ks ms w r hf hm hrd
  refine wpIn_scope (wpIn_mono (ha rd bs ks ms w r hf hm hrd) fun e a1 w1 hp=>?_)
  obtain ⟨x,fr',bs1,ks1,ms1,L1,H1,rfl,rfl,hq,hf1,hc1,hks1,hm1,hmr1,hr1⟩:=hp
  cases x with
  | nxt=>exact ⟨.nxt,fr',bs1,ks1,ms1,L1,H1,rfl,rfl,hq,hf1,hc1,hks1,hm1,hmr1,hr1⟩
  | ret=>exact ⟨.ret,fr',bs1,ks1,ms1,L1,H1,rfl,rfl,hq,hf1,hc1,hks1,hm1,hmr1,hr1⟩
  | ext i=>exact ⟨.ext i,fr',bs1,ks1,ms1,L1,H1,rfl,rfl,hq,hf1,hc1,hks1,hm1,hmr1,hr1⟩
 | .refuse _,_,_,_,_,_,h=>h.elim
def resK (E:Env):List ResultVar → List SV → List Box → List HO → (List Value → Prop) → Prop
 | [],_,_,_,K=>K []
 | .tmp t :: r,fr,L,H,K=>withV (fget fr t) fun x=>resK E r fr L H fun xs=>K (x :: xs)
 | .cell a T :: r,fr,L,H,K=>ldS E.w0 L H (ldT E.P T) (fget fr a) fun s=>withV s fun x=>resK E r fr L H fun xs=>K (x :: xs)
def tupV:List Value → Value
 | [x]=>x
 | xs=>.tuple xs.toArray
def retQ (E:Env) (rs:List ResultVar) (Post:Value → List HO → Prop):XSt:=fun x fr L H=>
 match x with
 | .nxt=>resK E rs fr L H fun vs=>Post (tupV vs) H
 | .ret=>resK E rs fr L H fun vs=>Post (tupV vs) H
 | .ext _=>False
def Fn (P:Program) (f:Nat) (args:List Value) (w:World) (X:Nat → Prop) (Post:Value → List HO → Prop):Prop:=
 Calls P f args.toArray w fun e w'=>∃ v N,e = .returned v ∧ Keep X w w' ∧ (∀ h ∈ N,h.ok w') ∧ (∀ h ∈ N,∀ b,h.fp b → X b ∨ w.heap.size ≤ b) ∧ N.Pairwise Apart ∧ Post v N
def initF (args:List Value) (n:Nat):List SV:=args.map SV.v ++ List.replicate (n - args.length) (.v undef)
theorem results_run {E:Env} {bs:Nat → Nat} {ks:List (Nat × Obj)} {fr:List SV} {L:List Box} {H:List HO} {w:World} (r:Rel E.w0 bs ks L H w):∀ (rs:List ResultVar) (K:List Value → Prop),resK E rs fr L H K →
  ∃ vs,K vs ∧ (rs.mapM (m:=Sem) fun | .tmp t=>pure ((rf bs fr).getD t undef) | .cell a t=>do loadVar t (← asAddr ((rf bs fr).getD a undef))).run E.P w = .ok vs w
 | [],K,h=>⟨[],h,by simp⟩
 | .tmp t :: rs,K,h=>by
  simp only [resK] at h
  obtain ⟨x,hx,h⟩:=withV_iff h
  obtain ⟨vs,hK,hr⟩:=results_run r rs _ h
  refine ⟨x :: vs,hK,?_⟩
  simp only [List.mapM_cons,Sem.run_bind,Sem.run_pure,Result.andThen_ok,hr]
  rw [rf_get,hx bs]
 | .cell a T :: rs,K,h=>by
  simp only [resK] at h
  obtain ⟨s,h,_,hload⟩:=ldS_sound h
  obtain ⟨x,hx,h⟩:=withV_iff h
  obtain ⟨vs,hK,hr⟩:=results_run r rs _ h
  refine ⟨x :: vs,hK,?_⟩
  have hl:=hload bs ks L H w r (List.prefix_refl _) (fun _ h=>h)
  rw [hx bs] at hl
  have hl':(do loadVar T (← asAddr ((rf bs fr).getD a undef)):Sem Value).run E.P w = .ok x w:=by
   rw [rf_get]
   unfold Instr.loadAt at hl
   cases hp:(fget fr a).real bs with
   | pointer p=>
    cases p with
    | none=>rw [hp] at hl; simp [Instr.sureAddr,stuck] at hl
    | some ad=>rw [hp] at hl; simp only [Instr.sureAddr,Sem.run_bind,Sem.run_pure,Result.andThen_ok] at hl; simp only [asAddr,Sem.run_bind,Sem.run_pure,Result.andThen_ok,hl]
   | _=>rw [hp] at hl; simp [Instr.sureAddr,stuck] at hl
  rw [List.mapM_cons,Sem.run_bind,hl']
  simp only [Result.andThen_ok,Sem.run_bind,hr,Sem.run_pure]
theorem results_eq {E:Env} {bs:Nat → Nat} {ks:List (Nat × Obj)} {fr:List SV} {L:List Box} {H:List HO} {w:World} (r:Rel E.w0 bs ks L H w) (fn:Func) {K:List Value → Prop} (h:resK E fn.results.toList fr L H K):
  ∃ vs,K vs ∧ (results fn (rf bs fr)).run E.P w = .ok (tupV vs) w:=by
 obtain ⟨vs,hK,hr⟩:=results_run r fn.results.toList K h
 refine ⟨vs,hK,?_⟩
 unfold results
 have e:(fn.results.mapM (m:=Sem) fun | .tmp t=>pure ((rf bs fr).getD t undef) | .cell a t=>do loadVar t (← asAddr ((rf bs fr).getD a undef))).run E.P w = .ok vs.toArray w:=by
  rw [← Array.toArray_toList (xs:=fn.results),List.mapM_toArray]
  simp only [Sem.run_map,hr,Result.andThen_ok]
 rw [Sem.run_bind]
 refine (congrArg (fun z:Result (Array Value)=>z.andThen fun vs w'=>(pure (if h:vs.size = 1 then vs[0] else Value.tuple vs):Sem Value).run E.P w') e).trans ?_
 simp only [Result.andThen_ok,Sem.run_pure]
 congr 1
 match vs with
 | []=>rfl
 | [x]=>rfl
 | x :: y :: zs=>
  have:¬ (x :: y :: zs).toArray.size = 1:=by simp
  rw [dif_neg this]
  rfl
theorem Wsc:(∀ (E:Env) (a:Code) (Q:XSt) (fr:List SV) (L:List Box) (H:List HO),W E (.scope a) Q fr L H = W E a Q fr L H) ∧ (∀ (E:Env) (l:Nat) (Q:XSt) (fr:List SV) (L:List Box) (H:List HO),W E (.label l) Q fr L H = Q .nxt fr L H):=⟨fun _ _ _ _ _ _=>rfl,fun _ _ _ _ _ _=>rfl⟩
end Go.SX

namespace Go.SX
open Go.RowKit
theorem rf_init (bs:Nat → Nat) (args:List Value) (n:Nat):rf bs (initF args n) = args.toArray ++ Array.replicate (n - args.toArray.size) undef:=by
 apply Array.ext'
 simp [rf,initF,SV.real,Function.comp_def]
theorem initF_wf (n:Nat) (args:List Value) (m:Nat):WfFr n (initF args m):=fun s hs=>by
 simp only [initF,List.mem_append,List.mem_map,List.mem_replicate] at hs
 rcases hs with ⟨v,_,rfl⟩ | ⟨_,rfl⟩ <;> trivial
theorem marks_leave {E:Env} {fn:Func} {bs:Nat → Nat} {fr:List SV} {L:List Box} {H:List HO} {Post:Value → List HO → Prop} {R:Ending → World → Prop}
  (hres:resK E fn.results.toList fr L H fun vs=>Post (tupV vs) H) (hR:∀ v w',Post v H → Hp E.w0 H w' → R (.returned v) w'):
  ∀ (ms:List Nat) (w:World),Rel E.w0 bs (ms.map fun r=>(r,Obj.deferred (some []))) L H w → ms.Nodup → LeavesInM Fence.wide 0 E.P fn (rf bs fr) R (ms.map mkD) .returning w
 | [],w,r,_=>by
  obtain ⟨vs,hp,hrun⟩:=results_eq r fn hres
  exact ⟨_,hrun,hR _ _ hp r.hp⟩
 | m :: ms,w,r,hn=>by
  have hm:=r.kok (m,.deferred (some [])) (by simp)
  have hnd:=List.nodup_cons.1 hn
  have r2:=(r.dropK (ks':=ms.map fun r=>(r,Obj.deferred (some []))) fun x hx=>List.mem_cons_of_mem _ hx).putK (o:=.deferred none) (lt_of_heap hm) (r.kold (m,_) (by simp)) (r.kb (m,.deferred (some [])) (by simp)) (r.kh (m,.deferred (some [])) (by simp)) (fun x hx e=>by
   simp only [List.mem_map] at hx
   obtain ⟨y,hy,rfl⟩:=hx
   subst e
   exact hnd.1 hy)
  refine ⟨by simp,.inl ⟨m,_,rfl,run_takeDeferred hm,?_⟩⟩
  exact marks_leave hres hR ms _ (r2.dropK fun x hx=>List.mem_cons_of_mem _ hx) hnd.2
theorem Fn.introZ {E:Env} {f:Nat} {fn:Func} {c:Code} {args:List Value} {Post:Value → List HO → Prop} (Z:Nat → Prop) (hf:E.P.funcs[f]? = some fn) (hb:fn.body = some c) (hE:E.Fine) (hD:E.DetOk) (hM:E.Mixed) (hok:codeB E.ord c = true) {H0:List HO}
  (h0:(∀ h ∈ H0,h.ok E.w0.w) ∧ (∀ h ∈ H0,∀ b,(h.fp b → Z b) ∧ (h.fpx b → E.w0.X b)) ∧ H0.Pairwise Apart) (h:W E c (retQ E fn.results.toList Post) (initF args fn.ntmps) [] H0):
  Calls E.P f args.toArray E.w0.w fun e w'=>∃ v N,e = .returned v ∧ Keep E.w0.X E.w0.w w' ∧ (∀ h ∈ N,h.ok w') ∧ (∀ h ∈ N,∀ b,(h.fp b → Z b ∨ E.w0.w.heap.size ≤ b) ∧ (h.fpx b → E.w0.X b ∨ E.w0.w.heap.size ≤ b)) ∧ N.Pairwise Apart ∧ Post v N:=by
 have hw:=W_sound hE hD hM c _ _ _ _ hok h
 have r0:Rel E.w0 (fun _=>0) [] [] H0 E.w0.w:=⟨⟨Keep.refl _ _,h0.1,fun h hh b hb=>.inl ((h0.2.1 h hh b).2 hb),h0.2.2⟩,fun j T cs hj=>by simp at hj,fun j hj=>by simp at hj,fun i j hi=>by simp at hi,fun j hj=>by simp at hj,fun x hx=>(by cases hx),fun x hx=>(by cases hx),fun x hx=>(by cases hx),fun x hx=>(by cases hx)⟩
 have hwp:=hw none (fun _=>0) [] [] E.w0.w r0 (initF_wf _ _ _) ⟨List.nodup_nil,fun x hx=>(by cases hx)⟩ (fun l hl=>by cases hl)
 rw [rf_init] at hwp
 refine (callsIn_wide (n:=0)).1 (callsIn_of_wp_marks hf hb trivial ?_ rfl)
 refine wpIn_mono hwp fun e a w' hp=>?_
 obtain ⟨x,fr',bs',ks',ms',L',H',rfl,rfl,hq,hf',hc,hks,hm,_,hr⟩:=hp
 have hz:∀ h ∈ H',∀ b,h.fp b → Z b ∨ E.w0.w.heap.size ≤ b:=fun h hh b hb=>by
  rcases hc.frm.fp b ⟨h,hh,hb⟩ with ⟨g,hg,hgb⟩ | x
  ·exact .inl ((h0.2.1 g hg b).1 hgb)
  ·exact .inr x
 have key:∀ (hres:resK E fn.results.toList fr' L' H' fun vs=>Post (tupV vs) H'),LeavesInM Fence.wide 0 E.P fn (rf bs' fr') _ (ms'.map mkD) .returning w':=fun hres=>
  marks_leave (R:=fun e w'=>∃ v N,e = .returned v ∧ Keep E.w0.X E.w0.w w' ∧ (∀ h ∈ N,h.ok w') ∧ (∀ h ∈ N,∀ b,(h.fp b → Z b ∨ E.w0.w.heap.size ≤ b) ∧ (h.fpx b → E.w0.X b ∨ E.w0.w.heap.size ≤ b)) ∧ N.Pairwise Apart ∧ Post v N) hres
   (fun v w'' hp hh=>⟨v,H',rfl,hh.ext,hh.ok,fun h hm b=>⟨hz h hm b,hh.old h hm b⟩,hh.nd,hp⟩) ms' w' (hr.dropK fun x hx=>by
    simp only [List.mem_map] at hx
    obtain ⟨y,hy,rfl⟩:=hx
    exact hm.2 y hy) hm.1
 cases x with
 | nxt=>exact key hq
 | ret=>exact key hq
 | ext i=>exact hq.elim
theorem Fn.intro {E:Env} {f:Nat} {fn:Func} {c:Code} {args:List Value} {Post:Value → List HO → Prop} (hf:E.P.funcs[f]? = some fn) (hb:fn.body = some c) (hE:E.Fine) (hD:E.DetOk) (hM:E.Mixed) (hok:codeB E.ord c = true) {H0:List HO}
  (h0:(∀ h ∈ H0,h.ok E.w0.w) ∧ (∀ h ∈ H0,∀ b,h.fp b → E.w0.X b) ∧ H0.Pairwise Apart) (h:W E c (retQ E fn.results.toList Post) (initF args fn.ntmps) [] H0):Fn E.P f args E.w0.w E.w0.X Post:=
 Calls.mono (Fn.introZ E.w0.X hf hb hE hD hM hok ⟨h0.1,fun g hg b=>⟨h0.2.1 g hg b,fun x=>h0.2.1 g hg b (HO.fp_of_fpx x)⟩,h0.2.2⟩ h)
  fun e w' ⟨v,N,he,hk,ho,hz,hn,hp⟩=>⟨v,N,he,hk,ho,fun g hg b=>(hz g hg b).1,hn,hp⟩
theorem Fn.mono {P:Program} {f:Nat} {args:List Value} {w:World} {X:Nat → Prop} {Post Post':Value → List HO → Prop} (h:Fn P f args w X Post) (hp:∀ v N,Post v N → Post' v N):Fn P f args w X Post':=
 Calls.mono h fun _e _w' ⟨v,N,a,b,c,d,e',p⟩=>⟨v,N,a,b,c,d,e',hp v N p⟩
theorem CallOb.pure {P:Program} {w0:Base} {dr:Bool} {f:Nat} {args:List Value} {H:List HO} {k:Value → List HO → Prop} {Post:Value → List HO → Prop} (h:∀ w,Hp w0 H w → Fn P f args w (fun _=>False) Post) (hk:∀ v N,Post v N → k v (N ++ H)):CallOb P w0 dr (.fn f) args H k:=by
 intro w hp
 refine Calls.mono (h w hp) fun e w' he=>?_
 obtain ⟨v,N,rfl,hkeep,hok,hold,hnd,hpost⟩:=he
 have hp':=hp.keep hkeep
 have hnew:∀ h ∈ N,∀ b,h.fp b → w.heap.size ≤ b:=fun h hh b hb=>(hold h hh b hb).resolve_left id
 refine ⟨v,fun _=>False,N ++ H,rfl,hkeep,fun _ h=>h.elim,⟨hp'.ext,fun h hh=>?_,fun h hh b hb=>?_,List.pairwise_append.2 ⟨hnd,hp'.nd,fun h hh h' hh' b hb hb'=>?_⟩⟩,fun h hh b=>⟨fun hb=>?_,fun hb=>?_⟩,fun _ x hx=>List.mem_append_right _ hx,hk v N hpost⟩
 ·rcases List.mem_append.1 hh with hh | hh
  ·exact hok h hh
  ·exact hp'.ok h hh
 ·rcases List.mem_append.1 hh with hh | hh
  ·exact .inr (Nat.le_trans hp.ext.size (hnew h hh b (HO.fp_of_fpx hb)))
  ·exact hp'.old h hh b hb
 ·have:=hnew h hh b hb
  have:=HO.lt (hp.ok h' hh') hb'
  omega
 ·rcases List.mem_append.1 hh with hh | hh
  ·exact .inr (hnew h hh b hb)
  ·exact .inl ⟨h,hh,hb⟩
 ·rcases List.mem_append.1 hh with hh | hh
  ·exact .inr (hnew h hh b (HO.fp_of_fpx hb))
  ·exact .inl ⟨h,hh,hb⟩
theorem CallOb.mut {P:Program} {w0:Base} {f:Nat} {args:List Value} {H A B:List HO} {k:Value → List HO → Prop} {Post:Value → List HO → Prop} (hi:HImp w0 H (A ++ B)) (hA:∀ b,fps A b → fpsx A b) (h:∀ w,Hp w0 (A ++ B) w → Fn P f args w (fpsx A) Post) (hk:∀ v N,Post v N → k v (N ++ B)):CallOb P w0 false (.fn f) args H k:=by
 intro w hp0
 have hp:=(hi w hp0).1
 refine Calls.mono (h w hp) fun e w' he=>?_
 obtain ⟨v,N,rfl,hkeep,hok,hold,hnd,hpost⟩:=he
 have hAB:=List.pairwise_append.1 hp.nd
 have hup:∀ b,fpsx A b → fpsx H b:=fun b ⟨x,hx,hb⟩=>(hi w hp0).2.2 b ⟨x,by simp [hx],hb⟩
 have hupB:∀ h ∈ B,∀ b,h.fp b → fps H b:=fun x hx b hb=>(hi w hp0).2.1 b ⟨x,by simp [hx],hb⟩
 have hBs:∀ h ∈ B,SameOn h.fp w w':=fun x hx=>hkeep.sameOn (fun b hb=>HO.lt (hp.ok x (by simp [hx])) hb) fun b hb ⟨y,hy,hyb⟩=>(hAB.2.2 y hy x hx b (HO.fp_of_fpx hyb) hb).1 hyb
 refine ⟨v,fpsx A,N ++ B,rfl,hkeep,hup,⟨hkeep.into hp.ext fun b ⟨y,hy,hyb⟩=>hp.old y (by simp [hy]) b hyb,fun h hh=>?_,fun h hh b hb=>?_,List.pairwise_append.2 ⟨hnd,hAB.2.1,fun h hh h' hh' b hb hb'=>?_⟩⟩,fun h hh b=>⟨fun hb=>?_,fun hb=>?_⟩,(fun h=>by cases h),hk v N hpost⟩
 ·rcases List.mem_append.1 hh with hh | hh
  ·exact hok h hh
  ·exact HO.stable (hp.ok h (by simp [hh])) (hBs h hh)
 ·rcases List.mem_append.1 hh with hh | hh
  ·rcases hold h hh b (HO.fp_of_fpx hb) with ⟨y,hy,hyb⟩ | x
   ·exact hp.old y (by simp [hy]) b hyb
   ·exact .inr (Nat.le_trans hp.ext.size x)
  ·exact hp.old h (by simp [hh]) b hb
 ·rcases hold h hh b hb with ⟨y,hy,hyb⟩ | x
  ·exact absurd hyb (hAB.2.2 y hy h' hh' b (HO.fp_of_fpx hyb) hb').1
  ·have:=HO.lt (hp.ok h' (by simp [hh'])) hb'
   omega
 ·rcases List.mem_append.1 hh with hh | hh
  ·rcases hold h hh b hb with x | x
   ·exact .inl (fps_of_fpsx (hup b x))
   ·exact .inr x
  ·exact .inl (hupB h hh b hb)
 ·rcases List.mem_append.1 hh with hh | hh
  ·rcases hold h hh b (HO.fp_of_fpx hb) with x | x
   ·exact .inl (hup b x)
   ·exact .inr x
  ·exact .inl ((hi w hp0).2.2 b ⟨h,by simp [hh],hb⟩)
theorem RowOk.sl {w:World} {v:Value} {E:TypeId} {sz:Nat} {xs:List Value} (h:RowOk w v E sz xs):Sl w v sz xs:=by
 rcases h with ⟨rfl,rfl⟩ | ⟨b,off,len,cap,arr,rfl,hb,hl,_,_,hfit,htake⟩
 ·exact ⟨none,0,0,rfl,by simp,fun i x hx=>by simp at hx⟩
 ·refine ⟨_,len,cap,rfl,hl,fun i x hx=>⟨_,rfl,?_⟩⟩
  rw [add_block,cell_of_cells hb]
  rw [← htake,List.getElem?_take] at hx
  split at hx
  ·simpa using hx
  ·cases hx
theorem Sl.keep {w w':World} {X:Nat → Prop} {v:Value} {sz:Nat} {xs:List Value} (h:Sl w v sz xs) (hk:Keep X w w') (hX:∀ b,v.ownBlock = some b → ¬ X b):Sl w' v sz xs:=by
 obtain ⟨a,len,cap,rfl,hl,hc⟩:=h
 refine ⟨a,len,cap,rfl,hl,fun i x hx=>?_⟩
 obtain ⟨ad,rfl,hcell⟩:=hc i x hx
 refine ⟨ad,rfl,?_⟩
 have hb:=World.block_lt_of_cell? w _ hcell
 have hblk:(ad.add i).block = ad.block:=by unfold Addr.add; split <;> rfl
 rw [World.cell?_of_block (w:=w) (hk.block _ hb (by rw [hblk]; exact hX _ rfl))]
 exact hcell
theorem add_add (a:Addr) (m n:Nat):(a.add m).add n = a.add (m + n):=by
 unfold Addr.add
 by_cases h1:m = 0 <;> by_cases h2:n = 0 <;> simp [h1,h2] <;> omega
theorem Sl.rd {w0:Base} {H:List HO} {ad:Addr} {len cap sz:Nat} {xs:List Value} (h:Sl w0.w (.slice (some ad) len cap) sz xs) (hX:¬ w0.X ad.block) {i:Nat} {v:Value} (hv:xs[i]? = some v):Rd w0 H (ad.add i) v:=by
 obtain ⟨a,len',cap',e,hl,hc⟩:=h
 cases e
 obtain ⟨ad',e,hcell⟩:=hc i v hv
 cases e
 have hblk:(ad.add i).block = ad.block:=by unfold Addr.add; split <;> rfl
 exact .inl ⟨hcell,by rw [hblk]; exact hX⟩
theorem row_rd {w0:Base} {H:List HO} {ad:Addr} {len cap sz:Nat} {E:TypeId} {xs:List Value} (h:HO.row (.slice (some ad) len cap) E sz xs ∈ H) {i:Nat} {v:Value} (hv:xs[i]? = some v):Rd w0 H (ad.add i) v:=by
 refine .inr ⟨_,h,fun w hw=>?_⟩
 obtain ⟨a,len',cap',e,hl,hc⟩:=RowOk.sl (E:=E) hw
 cases e
 obtain ⟨ad',e,hcell⟩:=hc i v hv
 cases e
 exact hcell
end Go.SX

namespace Go.SX
open Go.RowKit
structure TagF (p:List SV → List Box → List HO → Prop):Type where
 n:Nat
def ev3 (p:List SV → List Box → List HO → Prop) (_:TagF p) (fr:List SV) (L:List Box) (H:List HO):Prop:=p fr L H
def ev2 (p:List SV → List Box → List HO → Prop) (_:TagF p) (fr:List SV) (L:List Box) (H:List HO):Prop:=p fr L H
structure Tag (p:Prop):Type where
 n:Nat
def hold (p:Prop) (_:Tag p):Prop:=p
def orB (a b:Bool):Bool:=bif a then true else b
def seq1 (t:Bool) (E:Env) (a b:Code) (Q:XSt) (fr:List SV) (L:List Box) (H:List HO):Prop:=
 bif t then hold (CutOb E.w0 (W E a) (W E b Q) Q fr L H) ⟨0⟩ else W E a (seqQ (W E b Q) Q) fr L H
def rng1 (s:SV) (P:Program) (w0:Base) (Ba Bb:XSt → St) (ps:List Tmp) (Q:XSt) (fr:List SV) (L:List Box) (H:List HO):Prop:=RangeOb P w0 Ba Bb s ps Q fr L H
def yld1 (args:List Value) (E:Env) (dr:Bool) (l:Nat) (L:List Box) (H:List HO) (k:SV → List Box → List HO → Prop):Prop:=CallOb E.P E.w0 dr (.yield l) args H fun v H=>k (.v v) L H
def app1 (k:Option (TypeId × Nat × List Value × Nat)) (w0:Base) (s x:Value) (H:List HO) (K:Value → List HO → Prop):Prop:=AppOb w0 k s x H K
def wr1 (vs:List Value) (H:List HO) (a:Addr) (K:List HO → Prop):Prop:=WrOb H a vs K
def ones:List Nat → Plan → Plan
 | [],p=>p
 | i :: l,p=>.one i (ones l p)
def nthO:List Oper → Nat → Option Oper
 | [],_=>none
 | o :: _,0=>some o
 | _ :: l,n + 1=>nthO l n
theorem nthO_eq:∀ (l:List Oper) (i:Nat),nthO l i = l[i]?
 | [],_=>rfl
 | _ :: _,0=>rfl
 | _ :: l,n + 1=>nthO_eq l n
def one1 (E:Env) (all:List Oper) (o:Option Oper) (fr:List SV) (L:List Box) (H:List HO) (k:List SV → List Box → List HO → Prop):Prop:=
 match o with
 | some o=>execs E true all [o] fr L H k
 | none=>False
def onem (E:Env) (all:List Oper) (o:Option Oper) (fr:List SV) (L:List Box) (H:List HO) (k:List SV → List Box → List HO → Prop):Prop:=
 match o with
 | some o=>execs E false all [o] fr L H k
 | none=>False
def cnd1 (s:SV) (c:Operand) (fr:List SV) (yes no:List SV → Prop):Prop:=
 match s with
 | .b t=>bif t then yes fr else no fr
 | .v (.bool t)=>match c with
  | .tmp d=>(t = true → yes (fset fr d (.b true))) ∧ (t = false → no (fset fr d (.b false)))
  | _=>(t = true → yes fr) ∧ (t = false → no fr)
 | _=>False
def gd1 (s:SV) (fr:List SV) (d:Nat) (want:Bool) (yes no:List SV → Prop):Prop:=
 match s with
 | .b t=>bif t == want then yes fr else no fr
 | .v (.bool t)=>(t = want → yes (fset fr d (.b want))) ∧ (t = !want → no (fset fr d (.b !want)))
 | .v (.tuple _)=>no fr
 | _=>False
def bld1 (a:Option (List Value)) (K:SV → Prop):Prop:=
 match a with
 | some cs=>K (.v (.agg cs.toArray))
 | none=>False
def bldS (a:Option (List (Nat × Nat))) (b:Option (List Value)) (ps:List (Nat × Value)) (K:SV → Prop):Prop:=
 match a,b with
 | some pl,some z=>bld1 (fillS pl z ps) K
 | _,_=>False
def fil1 (x:Option (Nat × Nat)) (pl:List (Nat × Nat)) (cs vs:List Value) (r:List (Nat × Value)):Option (List Value):=
 match x with
 | some (o,n)=>if vs.length = n ∧ o + n ≤ cs.length then fillS pl (cs.take o ++ vs ++ cs.drop (o + n)) r else none
 | none=>none
theorem fill_rule (pl:List (Nat × Nat)) (cs:List Value) (i:Nat) (v:Value) (r:List (Nat × Value)):fillS pl cs ((i,v) :: r) = fil1 (pl[i]?) pl cs (vcells v) r:=by
 simp only [fillS,fil1,vcells]
 cases pl[i]? <;> rfl
theorem build_rule (E:Env) (dr:Bool) (fr:List SV) (L:List Box) (H:List HO) (d:Option Nat) (k:SV → List Box → List HO → Prop) (T:TypeId) (ps:List (Nat × Operand)):
  exec1 E dr fr L H d (.build T ps.toArray) k = withVs (ps.map fun p=>op1 fr p.2) fun xs=>bldS (placesT E.P T) (zeroT E.P T) ((ps.map (·.1)).zip xs) fun s=>k s L H:=by
 have key:∀ xs:List Value,(∃ pl z cs,placesT E.P T = some pl ∧ zeroT E.P T = some z ∧ fillS pl z ((ps.map (·.1)).zip xs) = some cs ∧ k (.v (.agg cs.toArray)) L H) = bldS (placesT E.P T) (zeroT E.P T) ((ps.map (·.1)).zip xs) fun s=>k s L H:=by
  intro xs
  unfold bldS bld1
  cases placesT E.P T with
  | none=>simp
  | some pl=>
   cases zeroT E.P T with
   | none=>simp
   | some z=>
    simp only [Option.some.injEq,exists_eq_left']
    cases hfs:fillS pl z ((ps.map (·.1)).zip xs) with
    | none=>simp [hfs]
    | some cs=>simp [hfs]
 show withVs _ (fun xs=>_) = _
 congr 1
 funext xs
 exact key xs
def allocS (E:Env) (d:Option Nat) (T:TypeId) (z:Option (List Value)) (L:List Box) (H:List HO) (k:SV → List Box → List HO → Prop):Prop:=
 match z with
 | some cs=>newBox E d T cs L H k
 | none=>False
theorem alloc_rule (E:Env) (dr:Bool) (fr:List SV) (L:List Box) (H:List HO) (d:Option Nat) (k:SV → List Box → List HO → Prop) (T:TypeId):
  exec1 E dr fr L H d (.alloc T) k = allocS E d T (zeroT E.P T) L H k:=by
 show (∃ z,zeroT E.P T = some z ∧ newBox E d T z L H k) = _
 unfold allocS
 cases zeroT E.P T with
 | none=>simp
 | some z=>simp
def inRe (d:Nat):List Nat → Bool
 | []=>false
 | e :: l=>bif d == e then true else inRe d l
theorem inRe_eq (d:Nat):∀ l:List Nat,l.contains d = inRe d l
 | []=>rfl
 | e :: l=>by
  rw [List.contains_cons,inRe,inRe_eq d l]
  cases d == e <;> rfl
def nb1 (t:Bool) (T:TypeId) (cs:List Value) (L:List Box) (H:List HO) (k:SV → List Box → List HO → Prop):Prop:=
 match t with
 | true=>∀ b,k (.v (.pointer (some ⟨b,0,none⟩))) L (.cells b T cs :: H)
 | false=>k (.p L.length 0) (L ++ [(T,cs)]) H
theorem nb_rule (E:Env) (T:TypeId) (cs:List Value) (L:List Box) (H:List HO) (k:SV → List Box → List HO → Prop) (d:Nat):newBox E (some d) T cs L H k = nb1 (inRe d E.re) T cs L H k:=by
 unfold newBox nb1
 simp only [inRe_eq]
 cases inRe d E.re <;> simp
def ldb1 (o:Option Value) (K:SV → Prop):Prop:=
 match o with
 | some v=>K (.v v)
 | none=>False
theorem ldb_eq (o:Option Value) (K:SV → Prop):(∃ v,o = some v ∧ K (.v v)) = ldb1 o K:=by
 unfold ldb1
 cases o <;> simp
theorem ldb_rule (cs:List Value) (o:Nat) (K:SV → Prop):ldBox cs o none K = ldb1 (cs[o]?) K:=by
 show (∃ v,cs[o]? = some v ∧ K (.v v)) = _
 unfold ldb1
 cases cs[o]? <;> simp
def cv1 (a b:Option IntKind) (x:Value) (K:SV → Prop):Prop:=
 match a,b,x with
 | some k1,some k2,.int k n=>k1 = k ∧ K (.v (.int k2 (k2.wrap n)))
 | _,_,_=>False
theorem cv_rule (E:Env) (dr:Bool) (fr:List SV) (L:List Box) (H:List HO) (d:Option Nat) (k:SV → List Box → List HO → Prop) (S T:TypeId) (x:Operand):
  exec1 E dr fr L H d (.convert S T x) k = withV (op1 fr x) fun x=>cv1 (intT E.P S) (intT E.P T) x fun s=>k s L H:=by
 show withV _ (fun x=>_) = _
 congr 1
 funext x
 unfold cv1
 cases intT E.P S <;> cases intT E.P T <;> cases x <;> simp
 exact ⟨fun ⟨_,⟨a,b⟩,c⟩=>⟨a.symm,b ▸ c⟩,fun ⟨a,c⟩=>⟨_,⟨a.symm,rfl⟩,c⟩⟩
def bs1 (a:Option (List Value)) (K:List Value → Prop):Prop:=
 match a with
 | some cs=>K cs
 | none=>False
def slotsL:Nat → Nat → Nat → List (Nat × Nat)
 | 0,_,_=>[]
 | n + 1,i,sz=>(i * sz,sz) :: slotsL n (i + 1) sz
theorem slots_eq (sz:Nat):∀ n i,slotsL n i sz = (List.range' i n).map fun i=>(i * sz,sz)
 | 0,i=>rfl
 | n + 1,i=>by rw [slotsL,List.range'_succ,List.map_cons,slots_eq sz n (i + 1)]
theorem slots_range (sz n:Nat):slotsL n 0 sz = (List.range n).map fun i=>(i * sz,sz):=by rw [slots_eq,List.range_eq_range']
def zersL:Nat → List Value → List Value
 | 0,_=>[]
 | n + 1,z=>z ++ zersL n z
theorem zers_eq (z:List Value):∀ n,zersL n z = zerosL n z
 | 0=>rfl
 | n + 1=>by rw [zersL,zers_eq z n,zerosL,zerosL,List.replicate_succ,List.flatten_cons]
theorem bs_rule (e sz bytes:Nat) (z:List Value) (n:Nat) (ps:List (Nat × Value)) (L:List Box) (H:List HO) (k:SV → List Box → List HO → Prop):
  bsS (some (e,sz,z,bytes)) n ps L H k = (n * sz ≤ 16777216 ∧ bs1 (fillS (slotsL n 0 sz) (zersL n z) ps) fun cs=>∀ b,k (.v (.slice (some ⟨b,0,none⟩) n n)) L (.row (.slice (some ⟨b,0,none⟩) n n) e sz cs :: H)):=by
 rw [slots_range,zers_eq]
 unfold bsS bs1
 cases hfs:fillS ((List.range n).map fun i=>(i * sz,sz)) (zerosL n z) ps <;> simp [hfs]
def call1 (v:Option Value) (E:Env) (dr:Bool) (g:Nat) (args:List Value) (L:List Box) (H:List HO) (k:SV → List Box → List HO → Prop):Prop:=
 match v with
 | some v=>k (.v v) L H
 | none=>CallOb E.P E.w0 dr (.fn g) args H fun v H=>k (.v v) L H
theorem inv_rule (E:Env) (dr:Bool) (args:List Value) (L:List Box) (H:List HO) (k:SV → List Box → List HO → Prop) (g:Nat) (first cap:List Value):
  invS E dr (.v (.func (.func g) first.toArray cap.toArray)) args L H k = (CallT E.P g ∧ call1 (E.det g (first ++ args ++ cap)) E dr g (first ++ args ++ cap) L H k):=by
 show (_ ∧ callS _ _ _ _ _ _ _) = _
 unfold callS call1
 rfl
@[congr] theorem W_cg {E:Env} {c:Code} {Q:XSt} {fr:List SV} {L:List Box} {H:List HO} {fr':List SV} {L':List Box} (hfr:fr = fr') (hL:L = L'):W E c Q fr L H = W E c Q fr' L' H:=by subst hfr; subst hL; rfl
@[congr] theorem seq1_cg {t:Bool} {E:Env} {a:Code} {b:Code} {Q:XSt} {fr:List SV} {L:List Box} {H:List HO} {t':Bool} (ht:t = t'):seq1 t E a b Q fr L H = seq1 t' E a b Q fr L H:=by subst ht; rfl
@[congr] theorem cutL_cg {l:List Nat} {a:Code} {b:Code} {l':List Nat} (hl:l = l'):cutL l a b = cutL l' a b:=by subst hl; rfl
@[congr] theorem headR_cg {a:Code}:headR a = headR a:=rfl
@[congr] theorem tailR_cg {a:Code}:tailR a = tailR a:=rfl
@[congr] theorem execs_cg {E:Env} {dr:Bool} {all:List Oper} {l:List Oper} {fr:List SV} {L:List Box} {H:List HO} {k:St} {l':List Oper} {fr':List SV} {L':List Box} (hl:l = l') (hfr:fr = fr') (hL:L = L'):execs E dr all l fr L H k = execs E dr all l' fr' L' H k:=by subst hl; subst hfr; subst hL; rfl
@[congr] theorem exec1_cg {E:Env} {dr:Bool} {fr:List SV} {L:List Box} {H:List HO} {d:Option Nat} {op:Op} {k:SV → List Box → List HO → Prop}:exec1 E dr fr L H d op k = exec1 E dr fr L H d op k:=rfl
@[congr] theorem nb1_cg {t:Bool} {T:TypeId} {cs:List Value} {L:List Box} {H:List HO} {k:SV → List Box → List HO → Prop} {t':Bool} {cs':List Value} (ht:t = t') (hcs:cs = cs'):nb1 t T cs L H k = nb1 t' T cs' L H k:=by subst ht; subst hcs; rfl
@[congr] theorem ldb1_cg {o:Option Value} {K:SV → Prop} {o':Option Value} (ho:o = o'):ldb1 o K = ldb1 o' K:=by subst ho; rfl
@[congr] theorem cv1_cg {a:Option IntKind} {b:Option IntKind} {x:Value} {K:SV → Prop} {a':Option IntKind} {b':Option IntKind} {x':Value} (ha:a = a') (hb:b = b') (hx:x = x'):cv1 a b x K = cv1 a' b' x' K:=by subst ha; subst hb; subst hx; rfl
@[congr] theorem rng1_cg {s:SV} {P:Program} {w0:Base} {Ba:XSt → St} {Bb:XSt → St} {ps:List Tmp} {Q:XSt} {fr:List SV} {L:List Box} {H:List HO} {s':SV} {fr':List SV} {L':List Box} (hs:s = s') (hfr:fr = fr') (hL:L = L'):rng1 s P w0 Ba Bb ps Q fr L H = rng1 s' P w0 Ba Bb ps Q fr' L' H:=by subst hs; subst hfr; subst hL; rfl
@[congr] theorem yld1_cg {args:List Value} {E:Env} {dr:Bool} {l:Nat} {L:List Box} {H:List HO} {k:SV → List Box → List HO → Prop} {args':List Value} (hargs:args = args'):yld1 args E dr l L H k = yld1 args' E dr l L H k:=by subst hargs; rfl
@[congr] theorem app1_cg {k:Option (TypeId × Nat × List Value × Nat)} {w0:Base} {s:Value} {x:Value} {H:List HO} {K:Value → List HO → Prop} {k':Option (TypeId × Nat × List Value × Nat)} {s':Value} {x':Value} (hk:k = k') (hs:s = s') (hx:x = x'):app1 k w0 s x H K = app1 k' w0 s' x' H K:=by subst hk; subst hs; subst hx; rfl
@[congr] theorem wr1_cg {vs:List Value} {H:List HO} {a:Addr} {K:List HO → Prop} {vs':List Value} {a':Addr} (hvs:vs = vs') (ha:a = a'):wr1 vs H a K = wr1 vs' H a' K:=by subst hvs; subst ha; rfl
@[congr] theorem planS_cg {E:Env} {o:Option Plan} {ops:List Oper} {fr:List SV} {L:List Box} {H:List HO} {k:St} {o':Option Plan} {fr':List SV} {L':List Box} (ho:o = o') (hfr:fr = fr') (hL:L = L'):planS E o ops fr L H k = planS E o' ops fr' L' H k:=by subst ho; subst hfr; subst hL; rfl
@[congr] theorem execsP_cg {E:Env} {all:List Oper} {p:Plan} {fr:List SV} {L:List Box} {H:List HO} {k:St} {fr':List SV} {L':List Box} (hfr:fr = fr') (hL:L = L'):execsP E all p fr L H k = execsP E all p fr' L' H k:=by subst hfr; subst hL; rfl
@[congr] theorem onem_cg {E:Env} {all:List Oper} {o:Option Oper} {fr:List SV} {L:List Box} {H:List HO} {k:St} {o':Option Oper} {fr':List SV} {L':List Box} (ho:o = o') (hfr:fr = fr') (hL:L = L'):onem E all o fr L H k = onem E all o' fr' L' H k:=by subst ho; subst hfr; subst hL; rfl
@[congr] theorem one1_cg {E:Env} {all:List Oper} {o:Option Oper} {fr:List SV} {L:List Box} {H:List HO} {k:St} {o':Option Oper} {fr':List SV} {L':List Box} (ho:o = o') (hfr:fr = fr') (hL:L = L'):one1 E all o fr L H k = one1 E all o' fr' L' H k:=by subst ho; subst hfr; subst hL; rfl
@[congr] theorem withV_cg {s:SV} {K:Value → Prop} {s':SV} (hs:s = s'):withV s K = withV s' K:=by subst hs; rfl
@[congr] theorem withVs_cg {s:List SV} {K:List Value → Prop} {s':List SV} (hs:s = s'):withVs s K = withVs s' K:=by subst hs; rfl
@[congr] theorem optV_cg {s:Option SV} {K:Option Value → Prop} {s':Option SV} (hs:s = s'):optV s K = optV s' K:=by subst hs; rfl
@[congr] theorem pickS_cg {c:SV} {a:SV} {b:SV} {K:SV → Prop} {c':SV} {a':SV} {b':SV} (hc:c = c') (ha:a = a') (hb:b = b'):pickS c a b K = pickS c' a' b' K:=by subst hc; subst ha; subst hb; rfl
@[congr] theorem ncS_cg {s:SV} {K:SV → Prop} {s':SV} (hs:s = s'):ncS s K = ncS s' K:=by subst hs; rfl
@[congr] theorem ldS_cg {w0:Base} {L:List Box} {H:List HO} {k:Option (Option Nat)} {s:SV} {K:SV → Prop} {L':List Box} {k':Option (Option Nat)} {s':SV} (hL:L = L') (hk:k = k') (hs:s = s'):ldS w0 L H k s K = ldS w0 L' H k' s' K:=by subst hL; subst hk; subst hs; rfl
@[congr] theorem ldBox_cg {cs:List Value} {o:Nat} {k:Option Nat} {K:SV → Prop} {cs':List Value} {o':Nat} {k':Option Nat} (hcs:cs = cs') (ho:o = o') (hk:k = k'):ldBox cs o k K = ldBox cs' o' k' K:=by subst hcs; subst ho; subst hk; rfl
@[congr] theorem LdOb_cg {w0:Base} {H:List HO} {a:Addr} {k:Option Nat} {K:SV → Prop} {a':Addr} (ha:a = a'):LdOb w0 H a k K = LdOb w0 H a' k K:=by subst ha; rfl
@[congr] theorem binS_cg {P:Program} {o:BinOp} {T:TypeId} {x:Value} {y:Value} {K:SV → Prop} {x':Value} {y':Value} (hx:x = x') (hy:y = y'):binS P o T x y K = binS P o T x' y' K:=by subst hx; subst hy; rfl
@[congr] theorem binI_cg {o:BinOp} {k:IntKind} {x:Int} {y:Int} {K:SV → Prop} {x':Int} {y':Int} (hx:x = x') (hy:y = y'):binI o k x y K = binI o k x' y' K:=by subst hx; subst hy; rfl
@[congr] theorem unS_cg {o:UnOp} {s:SV} {K:SV → Prop} {s':SV} (hs:s = s'):unS o s K = unS o s' K:=by subst hs; rfl
@[congr] theorem faS_cg {k:Option Nat} {s:SV} {K:SV → Prop} {k':Option Nat} {s':SV} (hk:k = k') (hs:s = s'):faS k s K = faS k' s' K:=by subst hk; subst hs; rfl
@[congr] theorem fldS_cg {k:Option (Nat × Option Nat)} {x:Value} {K:SV → Prop} {k':Option (Nat × Option Nat)} {x':Value} (hk:k = k') (hx:x = x'):fldS k x K = fldS k' x' K:=by subst hk; subst hx; rfl
@[congr] theorem partS_cg {cs:List Value} {o:Nat} {k:Option Nat} {K:SV → Prop} {cs':List Value} {o':Nat} {k':Option Nat} (hcs:cs = cs') (ho:o = o') (hk:k = k'):partS cs o k K = partS cs' o' k' K:=by subst hcs; subst ho; subst hk; rfl
@[congr] theorem ixS_cg {k:Option (TypeId × Nat)} {ar:Option (Nat × Nat × Option Nat)} {x:SV} {i:Value} {K:SV → Prop} {k':Option (TypeId × Nat)} {ar':Option (Nat × Nat × Option Nat)} {x':SV} {i':Value} (hk:k = k') (har:ar = ar') (hx:x = x') (hi:i = i'):ixS k ar x i K = ixS k' ar' x' i' K:=by subst hk; subst har; subst hx; subst hi; rfl
@[congr] theorem idxS_cg {ar:Option (Nat × Nat × Option Nat)} {x:Value} {i:Value} {K:SV → Prop} {ar':Option (Nat × Nat × Option Nat)} {x':Value} {i':Value} (har:ar = ar') (hx:x = x') (hi:i = i'):idxS ar x i K = idxS ar' x' i' K:=by subst har; subst hx; subst hi; rfl
@[congr] theorem extS_cg {x:Value} {i:Nat} {K:SV → Prop} {x':Value} (hx:x = x'):extS x i K = extS x' i K:=by subst hx; rfl
@[congr] theorem bldS_cg {a:Option (List (Nat × Nat))} {b:Option (List Value)} {ps:List (Nat × Value)} {K:SV → Prop} {a':Option (List (Nat × Nat))} {b':Option (List Value)} {ps':List (Nat × Value)} (ha:a = a') (hb:b = b') (hps:ps = ps'):bldS a b ps K = bldS a' b' ps' K:=by subst ha; subst hb; subst hps; rfl
@[congr] theorem bld1_cg {a:Option (List Value)} {K:SV → Prop} {a':Option (List Value)} (ha:a = a'):bld1 a K = bld1 a' K:=by subst ha; rfl
@[congr] theorem bs1_cg {a:Option (List Value)} {K:List Value → Prop} {a':Option (List Value)} (ha:a = a'):bs1 a K = bs1 a' K:=by subst ha; rfl
@[congr] theorem slQ_cg {k:Option (TypeId × Nat)} {ar:Option (Nat × Nat × Option Nat)} {x:Value} {a:Option Value} {b:Option Value} {c:Option Value} {K:SV → Prop} {k':Option (TypeId × Nat)} {ar':Option (Nat × Nat × Option Nat)} {x':Value} {a':Option Value} {b':Option Value} {c':Option Value} (hk:k = k') (har:ar = ar') (hx:x = x') (ha:a = a') (hb:b = b') (hc:c = c'):slQ k ar x a b c K = slQ k' ar' x' a' b' c' K:=by subst hk; subst har; subst hx; subst ha; subst hb; subst hc; rfl
@[congr] theorem slS_cg {k:Option (TypeId × Nat)} {x:Value} {a:Option Value} {b:Option Value} {c:Option Value} {K:SV → Prop} {k':Option (TypeId × Nat)} {x':Value} {a':Option Value} {b':Option Value} {c':Option Value} (hk:k = k') (hx:x = x') (ha:a = a') (hb:b = b') (hc:c = c'):slS k x a b c K = slS k' x' a' b' c' K:=by subst hk; subst hx; subst ha; subst hb; subst hc; rfl
@[congr] theorem bndS_cg {x:Option Value} {d:Nat} {y:Nat} {K:Nat → Prop} {x':Option Value} {d':Nat} {y':Nat} (hx:x = x') (hd:d = d') (hy:y = y'):bndS x d y K = bndS x' d' y' K:=by subst hx; subst hd; subst hy; rfl
@[congr] theorem lenS_cg {x:Value} {K:SV → Prop} {x':Value} (hx:x = x'):lenS x K = lenS x' K:=by subst hx; rfl
@[congr] theorem capS_cg {x:Value} {K:SV → Prop} {x':Value} (hx:x = x'):capS x K = capS x' K:=by subst hx; rfl
@[congr] theorem mmS_cg {t:Bool} {x:Value} {y:Value} {K:SV → Prop} {x':Value} {y':Value} (hx:x = x') (hy:y = y'):mmS t x y K = mmS t x' y' K:=by subst hx; subst hy; rfl
@[congr] theorem newBox_cg {E:Env} {d:Option Nat} {T:TypeId} {cs:List Value} {L:List Box} {H:List HO} {k:SV → List Box → List HO → Prop} {cs':List Value} (hcs:cs = cs'):newBox E d T cs L H k = newBox E d T cs' L H k:=by subst hcs; rfl
@[congr] theorem allocS_cg {E:Env} {d:Option Nat} {T:TypeId} {z:Option (List Value)} {L:List Box} {H:List HO} {k:SV → List Box → List HO → Prop} {z':Option (List Value)} (hz:z = z'):allocS E d T z L H k = allocS E d T z' L H k:=by subst hz; rfl
@[congr] theorem stS_cg {L:List Box} {H:List HO} {n:Option Nat} {a:SV} {x:Value} {K:List Box → List HO → Prop} {n':Option Nat} {a':SV} {x':Value} (hn:n = n') (ha:a = a') (hx:x = x'):stS L H n a x K = stS L H n' a' x' K:=by subst hn; subst ha; subst hx; rfl
@[congr] theorem mkS_cg {k:Option (TypeId × Nat × List Value × Nat)} {n:Value} {c:Value} {L:List Box} {H:List HO} {K:SV → List Box → List HO → Prop} {k':Option (TypeId × Nat × List Value × Nat)} {n':Value} {c':Value} (hk:k = k') (hn:n = n') (hc:c = c'):mkS k n c L H K = mkS k' n' c' L H K:=by subst hk; subst hn; subst hc; rfl
@[congr] theorem bsS_cg {k:Option (TypeId × Nat × List Value × Nat)} {n:Nat} {ps:List (Nat × Value)} {L:List Box} {H:List HO} {K:SV → List Box → List HO → Prop} {k':Option (TypeId × Nat × List Value × Nat)} {ps':List (Nat × Value)} (hk:k = k') (hps:ps = ps'):bsS k n ps L H K = bsS k' n ps' L H K:=by subst hk; subst hps; rfl
@[congr] theorem invS_cg {E:Env} {dr:Bool} {f:SV} {args:List Value} {L:List Box} {H:List HO} {k:SV → List Box → List HO → Prop} {f':SV} {args':List Value} (hf:f = f') (hargs:args = args'):invS E dr f args L H k = invS E dr f' args' L H k:=by subst hf; subst hargs; rfl
@[congr] theorem call1_cg {v:Option Value} {E:Env} {dr:Bool} {g:Nat} {args:List Value} {L:List Box} {H:List HO} {k:SV → List Box → List HO → Prop} {v':Option Value} {args':List Value} (hv:v = v') (hargs:args = args'):call1 v E dr g args L H k = call1 v' E dr g args' L H k:=by subst hv; subst hargs; rfl
@[congr] theorem CallOb_cg {P:Program} {w0:Base} {dr:Bool} {tg:Tg} {args:List Value} {H:List HO} {k:Value → List HO → Prop} {args':List Value} (hargs:args = args'):CallOb P w0 dr tg args H k = CallOb P w0 dr tg args' H k:=by subst hargs; rfl
@[congr] theorem AppOb_cg {w0:Base} {k:Option (TypeId × Nat × List Value × Nat)} {s:Value} {x:Value} {H:List HO} {K:Value → List HO → Prop} {k':Option (TypeId × Nat × List Value × Nat)} {s':Value} {x':Value} (hk:k = k') (hs:s = s') (hx:x = x'):AppOb w0 k s x H K = AppOb w0 k' s' x' H K:=by subst hk; subst hs; subst hx; rfl
@[congr] theorem ClrOb_cg {P:Program} {w0:Base} {T:TypeId} {a:Value} {H:List HO} {K:Value → List HO → Prop} {a':Value} (ha:a = a'):ClrOb P w0 T a H K = ClrOb P w0 T a' H K:=by subst ha; rfl
@[congr] theorem CopyOb_cg {P:Program} {w0:Base} {T:TypeId} {T':TypeId} {a:Value} {x:Value} {H:List HO} {K:Value → List HO → Prop} {a':Value} {x':Value} (ha:a = a') (hx:x = x'):CopyOb P w0 T T' a x H K = CopyOb P w0 T T' a' x' H K:=by subst ha; subst hx; rfl
@[congr] theorem InsOb_cg {P:Program} {T:TypeId} {m:Value} {q:Value} {x:Value} {H:List HO} {K:List HO → Prop} {m':Value} {q':Value} {x':Value} (hm:m = m') (hq:q = q') (hx:x = x'):InsOb P T m q x H K = InsOb P T m' q' x' H K:=by subst hm; subst hq; subst hx; rfl
@[congr] theorem LkOb_cg {P:Program} {w0:Base} {T:TypeId} {m:Value} {q:Value} {t:Bool} {H:List HO} {K:Value → Prop} {m':Value} {q':Value} (hm:m = m') (hq:q = q'):LkOb P w0 T m q t H K = LkOb P w0 T m' q' t H K:=by subst hm; subst hq; rfl
@[congr] theorem WrOb_cg {H:List HO} {a:Addr} {vs:List Value} {K:List HO → Prop} {a':Addr} {vs':List Value} (ha:a = a') (hvs:vs = vs'):WrOb H a vs K = WrOb H a' vs' K:=by subst ha; subst hvs; rfl
@[congr] theorem LoopOb_cg {w0:Base} {B:XSt → St} {Q:XSt} {fr:List SV} {L:List Box} {H:List HO} {fr':List SV} {L':List Box} (hfr:fr = fr') (hL:L = L'):LoopOb w0 B Q fr L H = LoopOb w0 B Q fr' L' H:=by subst hfr; subst hL; rfl
@[congr] theorem RangeOb_cg {P:Program} {w0:Base} {Ba:XSt → St} {Bb:XSt → St} {g:SV} {ps:List Tmp} {Q:XSt} {fr:List SV} {L:List Box} {H:List HO} {g':SV} {fr':List SV} {L':List Box} (hg:g = g') (hfr:fr = fr') (hL:L = L'):RangeOb P w0 Ba Bb g ps Q fr L H = RangeOb P w0 Ba Bb g' ps Q fr' L' H:=by subst hg; subst hfr; subst hL; rfl
@[congr] theorem cnd1_cg {s:SV} {c:Operand} {fr:List SV} {yes:List SV → Prop} {no:List SV → Prop} {s':SV} (hs:s = s'):cnd1 s c fr yes no = cnd1 s' c fr yes no:=by subst hs; rfl
@[congr] theorem gdS_cg {fr:List SV} {d:Option Nat} {want:Bool} {yes:List SV → Prop} {no:List SV → Prop} {d':Option Nat} (hd:d = d'):gdS fr d want yes no = gdS fr d' want yes no:=by subst hd; rfl
@[congr] theorem gd1_cg {s:SV} {fr:List SV} {d:Nat} {want:Bool} {yes:List SV → Prop} {no:List SV → Prop} {s':SV} {d':Nat} (hs:s = s') (hd:d = d'):gd1 s fr d want yes no = gd1 s' fr d' want yes no:=by subst hs; subst hd; rfl
@[congr] theorem resK_cg {E:Env} {rs:List ResultVar} {fr:List SV} {L:List Box} {H:List HO} {K:List Value → Prop} {rs':List ResultVar} (hrs:rs = rs'):resK E rs fr L H K = resK E rs' fr L H K:=by subst hrs; rfl
@[congr] theorem seqQ_cg {K:St} {Q:XSt} {x:X} {fr:List SV} {L:List Box} {H:List HO} {fr':List SV} {L':List Box} (hfr:fr = fr') (hL:L = L'):seqQ K Q x fr L H = seqQ K Q x fr' L' H:=by subst hfr; subst hL; rfl
@[congr] theorem blkQ_cg {i:Nat} {Q:XSt} {x:X} {fr:List SV} {L:List Box} {H:List HO} {fr':List SV} {L':List Box} (hfr:fr = fr') (hL:L = L'):blkQ i Q x fr L H = blkQ i Q x fr' L' H:=by subst hfr; subst hL; rfl
@[congr] theorem retQ_cg {E:Env} {rs:List ResultVar} {Post:Value → List HO → Prop} {x:X} {fr:List SV} {L:List Box} {H:List HO} {fr':List SV} {L':List Box} (hfr:fr = fr') (hL:L = L'):retQ E rs Post x fr L H = retQ E rs Post x fr' L' H:=by subst hfr; subst hL; rfl
theorem r0 (E:Env) (Q:XSt) (fr:List SV) (L:List Box) (H:List HO):W E .skip Q fr L H = Q .nxt fr L H:=rfl
theorem r1 (E:Env) (Q:XSt) (fr:List SV) (L:List Box) (H:List HO):W E .ret Q fr L H = Q .ret fr L H:=rfl
theorem r2 (E:Env) (Q:XSt) (fr:List SV) (L:List Box) (H:List HO) (i:Nat):W E (.exit i) Q fr L H = Q (.ext i) fr L H:=rfl
theorem r3 (E:Env) (Q:XSt) (fr:List SV) (L:List Box) (H:List HO) (a b:Code):W E (.seq a b) Q fr L H = seq1 (cutL E.cuts a b) E a b Q fr L H:=by show (bif _ then _ else _) = _; unfold seq1 hold; cases cutL E.cuts a b <;> rfl
theorem r4 (E:Env) (Q:XSt) (fr:List SV) (L:List Box) (H:List HO) (a b:Code):seq1 false E a b Q fr L H = W E a (seqQ (W E b Q) Q) fr L H:=rfl
theorem r5 (E:Env) (Q:XSt) (fr:List SV) (L:List Box) (H:List HO) (a b:Code):seq1 true E a b Q fr L H = ev3 (fun fr L H=>CutOb E.w0 (W E a) (W E b Q) Q fr L H) ⟨0⟩ fr L H:=rfl
theorem r6 (a b:Code):cutL [] a b = false:=rfl
theorem r7 (i:Nat) (l:List Nat) (a b:Code):cutL (i :: l) a b = orB (inCut (headR b) (i :: l)) (inCut (tailR a) (i :: l)):=rfl
theorem r8 (b:Bool):orB true b = true:=rfl
theorem r9 (b:Bool):orB false b = b:=rfl
theorem r10 (i:Nat) (o:Array Oper) (d:Bool):headR (.region i o d) = 2 * i:=rfl
theorem r11 (a b:Code):headR (.seq a b) = headR a:=rfl
theorem r12 (i:Nat) (a:Code):headR (.block i a) = headR a:=rfl
theorem r13 (a:Code):headR (.loop a) = headR a:=rfl
theorem r14 (c:Operand) (a b:Code):headR (.cond c a b) = 1000000:=rfl
theorem r15 (i:Nat):headR (.exit i) = 1000000:=rfl
theorem r16 :headR .ret = 1000000:=rfl
theorem r17 :headR .skip = 1000000:=rfl
theorem r18 (g:Operand) (ps:Array Tmp) (a b:Code):headR (.rangeFunc g ps a b) = 1000000:=rfl
theorem r19 (i:Nat) (o:Array Oper) (d:Bool):tailR (.region i o d) = 2 * i + 1:=rfl
theorem r20 (a b:Code):tailR (.seq a b) = tailR b:=rfl
theorem r21 (i:Nat) (a:Code):tailR (.block i a) = 1000000:=rfl
theorem r22 (a:Code):tailR (.loop a) = 1000000:=rfl
theorem r23 (c:Operand) (a b:Code):tailR (.cond c a b) = 1000000:=rfl
theorem r24 (i:Nat):tailR (.exit i) = 1000000:=rfl
theorem r25 :tailR .ret = 1000000:=rfl
theorem r26 :tailR .skip = 1000000:=rfl
theorem r27 (g:Operand) (ps:Array Tmp) (a b:Code):tailR (.rangeFunc g ps a b) = 1000000:=rfl
theorem r28 (i:Nat):inCut i [] = false:=rfl
theorem r29 (i j:Nat) (l:List Nat):inCut i (j :: l) = bif i == j then true else inCut i l:=rfl
theorem r30 {σ:Type} (w0:Base) (wr:List (Nat × Nat)) (enc:σ → List (Nat × Value)) (Lf:σ → List Box) (Inv:σ → List HO → Prop) (fr:List SV) (n:Nat) (Q:XSt) (fr':List SV) (L':List Box) (H':List HO):cutQ w0 wr enc Lf Inv fr n Q .nxt fr' L' H' = ∃ s' H2,fits 0 wr (enc s') fr fr' ∧ L'.take n = Lf s' ∧ HImp w0 H' H2 ∧ Inv s' H2:=rfl
theorem r31 {σ:Type} (w0:Base) (wr:List (Nat × Nat)) (enc:σ → List (Nat × Value)) (Lf:σ → List Box) (Inv:σ → List HO → Prop) (fr:List SV) (n:Nat) (Q:XSt) (fr':List SV) (L':List Box) (H':List HO):cutQ w0 wr enc Lf Inv fr n Q .ret fr' L' H' = Q .ret fr' L' H':=rfl
theorem r32 {σ:Type} (w0:Base) (wr:List (Nat × Nat)) (enc:σ → List (Nat × Value)) (Lf:σ → List Box) (Inv:σ → List HO → Prop) (fr:List SV) (n:Nat) (Q:XSt) (fr':List SV) (L':List Box) (H':List HO) (i:Nat):cutQ w0 wr enc Lf Inv fr n Q (.ext i) fr' L' H' = Q (.ext i) fr' L' H':=rfl
theorem r33 (E:Env) (Q:XSt) (fr:List SV) (L:List Box) (H:List HO) (i:Nat) (a:Code):W E (.block i a) Q fr L H = W E a (blkQ i Q) fr L H:=rfl
theorem r34 (E:Env) (Q:XSt) (fr:List SV) (L:List Box) (H:List HO) (i:Nat) (l:List Oper):W E (.region i l.toArray false) Q fr L H = execs E false l l fr L H (Q .nxt):=rfl
theorem r35 (E:Env) (Q:XSt) (fr:List SV) (L:List Box) (H:List HO) (i:Nat) (l:List Oper):W E (.region i l.toArray true) Q fr L H = planS E (lkO i E.ord) l fr L H (Q .nxt):=rfl
theorem r36 (E:Env) (Q:XSt) (fr:List SV) (L:List Box) (H:List HO) (c:Operand) (a b:Code):W E (.cond c a b) Q fr L H = cnd1 (op1 fr c) c fr (fun fr=>W E a Q fr L H) (fun fr=>W E b Q fr L H):=rfl
theorem r37 (E:Env) (Q:XSt) (fr:List SV) (L:List Box) (H:List HO) (a:Code):W E (.loop a) Q fr L H = ev3 (fun fr L H=>LoopOb E.w0 (W E a) Q fr L H) ⟨0⟩ fr L H:=rfl
theorem r38 (E:Env) (Q:XSt) (fr:List SV) (L:List Box) (H:List HO) (g:Operand) (ps:List Tmp) (a b:Code):W E (.rangeFunc g ps.toArray a b) Q fr L H = rng1 (op1 fr g) E.P E.w0 (W E a) (W E b) ps Q fr L H:=rfl
theorem r39 (v:Value) (P:Program) (w0:Base) (Ba Bb:XSt → St) (ps:List Tmp) (Q:XSt) (fr:List SV) (L:List Box) (H:List HO):rng1 (.v v) P w0 Ba Bb ps Q fr L H = ev3 (fun fr L H=>RangeOb P w0 Ba Bb (.v v) ps Q fr L H) ⟨0⟩ fr L H:=rfl
theorem r40 (K:St) (Q:XSt):seqQ K Q .nxt = K:=rfl
theorem r41 (K:St) (Q:XSt):seqQ K Q .ret = Q .ret:=rfl
theorem r42 (K:St) (Q:XSt) (i:Nat):seqQ K Q (.ext i) = Q (.ext i):=rfl
theorem r43 (i:Nat) (Q:XSt):blkQ i Q .nxt = Q .nxt:=rfl
theorem r44 (i:Nat) (Q:XSt):blkQ i Q .ret = Q .ret:=rfl
theorem r45 (i j:Nat) (Q:XSt):blkQ i Q (.ext j) = bif j == i then Q .nxt else Q (.ext j):=rfl
theorem r46 (E:Env) (rs:List ResultVar) (Post:Value → List HO → Prop) (fr:List SV) (L:List Box) (H:List HO):retQ E rs Post .nxt fr L H = resK E rs fr L H fun vs=>Post (tupV vs) H:=rfl
theorem r47 (E:Env) (rs:List ResultVar) (Post:Value → List HO → Prop) (fr:List SV) (L:List Box) (H:List HO):retQ E rs Post .ret fr L H = resK E rs fr L H fun vs=>Post (tupV vs) H:=rfl
theorem r48 (K:St) (fr:List SV) (L:List Box) (H:List HO):assignQ K .nxt fr L H = K fr L H:=rfl
theorem r49 {σ:Type} (w0:Base) (wr:List (Nat × Nat)) (enc:σ → List (Nat × Value)) (Lf:σ → List Box) (Inv:σ → List HO → Prop) (μ:σ → Nat) (fr:List SV) (n m:Nat) (Q:XSt) (fr':List SV) (L':List Box) (H':List HO):loopQ w0 wr enc Lf Inv μ fr n m Q .nxt fr' L' H' = ∃ s' H2,fits 0 wr (enc s') fr fr' ∧ L'.take n = Lf s' ∧ HImp w0 H' H2 ∧ Inv s' H2 ∧ μ s' < m:=rfl
theorem r50 {σ:Type} (w0:Base) (wr:List (Nat × Nat)) (enc:σ → List (Nat × Value)) (Lf:σ → List Box) (Inv:σ → List HO → Prop) (μ:σ → Nat) (fr:List SV) (n m:Nat) (Q:XSt) (fr':List SV) (L':List Box) (H':List HO):loopQ w0 wr enc Lf Inv μ fr n m Q .ret fr' L' H' = Q .ret fr' L' H':=rfl
theorem r51 {σ:Type} (w0:Base) (wr:List (Nat × Nat)) (enc:σ → List (Nat × Value)) (Lf:σ → List Box) (Inv:σ → List HO → Prop) (μ:σ → Nat) (fr:List SV) (n m:Nat) (Q:XSt) (fr':List SV) (L':List Box) (H':List HO) (i:Nat):loopQ w0 wr enc Lf Inv μ fr n m Q (.ext i) fr' L' H' = Q (.ext i) fr' L' H':=rfl
theorem r52 (w0:Base) (n:Nat) (I:List Box → List HO → Prop) (Q:XSt) (fr fr2:List SV) (L2:List Box) (H2:List HO):rangeQ w0 n I Q fr .nxt fr2 L2 H2 = ∃ H3,HImp w0 H2 H3 ∧ I (L2.take n) H3:=rfl
theorem r53 (w0:Base) (n:Nat) (I:List Box → List HO → Prop) (Q:XSt) (fr fr2:List SV) (L2:List Box) (H2:List HO):rangeQ w0 n I Q fr .ret fr2 L2 H2 = ∃ H3,HImp w0 H2 H3 ∧ Q .ret fr (L2.take n) H3:=rfl
theorem r54 (w0:Base) (n:Nat) (I:List Box → List HO → Prop) (Q:XSt) (fr fr2:List SV) (L2:List Box) (H2:List HO) (i:Nat):rangeQ w0 n I Q fr (.ext i) fr2 L2 H2 = ∃ H3,HImp w0 H2 H3 ∧ Q (.ext i) fr (L2.take n) H3:=rfl
theorem r55 (fr:List SV) (t:Nat) (ts:List Nat) (v:Value) (vs:List Value):setPs fr (t :: ts) (v :: vs) = setPs (fset fr t (.v v)) ts vs:=rfl
theorem r56 (fr:List SV):setPs fr [] [] = fr:=rfl
theorem r57 (i:Nat) (wr:List (Nat × Nat)) (enc:List (Nat × Value)) (g:Nat → Value):hv i wr enc g [] = []:=rfl
theorem r58 (i:Nat) (wr:List (Nat × Nat)) (enc:List (Nat × Value)) (g:Nat → Value) (x:SV) (r:List SV):hv i wr enc g (x :: r) = hv1 (lkV i enc) (inI i wr) (g i) x :: hv (i + 1) wr enc g r:=rfl
theorem r59 (v:Value) (w:Bool) (g:Value) (x:SV):hv1 (some v) w g x = .v v:=rfl
theorem r60 (g:Value) (x:SV):hv1 none true g x = .v g:=rfl
theorem r61 (g:Value) (x:SV):hv1 none false g x = x:=rfl
theorem r62 (i:Nat):lkV i [] = none:=rfl
theorem r63 (i j:Nat) (v:Value) (r:List (Nat × Value)):lkV i ((j,v) :: r) = bif i == j then some v else lkV i r:=rfl
theorem r64 (i:Nat):lkO i [] = none:=rfl
theorem r65 (i j:Nat) (v:Plan) (r:List (Nat × Plan)):lkO i ((j,v) :: r) = bif i == j then some v else lkO i r:=rfl
theorem r66 (E:Env) (all:List Oper) (fr:List SV) (L:List Box) (H:List HO) (k:List SV → List Box → List HO → Prop):planS E none all fr L H k = execs E true all all fr L H k:=rfl
theorem r67 (E:Env) (all:List Oper) (fr:List SV) (L:List Box) (H:List HO) (k:List SV → List Box → List HO → Prop) (p:Plan):planS E (some p) all fr L H k = execsP E all p fr L H k:=rfl
theorem r68 (E:Env) (all:List Oper) (fr:List SV) (L:List Box) (H:List HO) (k:List SV → List Box → List HO → Prop):execsP E all .fin fr L H k = k fr L H:=rfl
theorem r69 (E:Env) (all:List Oper) (fr:List SV) (L:List Box) (H:List HO) (k:List SV → List Box → List HO → Prop):execsP E all .no fr L H k = True:=rfl
theorem r70 (E:Env) (all:List Oper) (fr:List SV) (L:List Box) (H:List HO) (k:List SV → List Box → List HO → Prop) (i:Nat) (p:Plan):execsP E all (.one i p) fr L H k = one1 E all (nthO all i) fr L H fun fr L H=>execsP E all p fr L H k:=by rw [nthO_eq]; rfl
theorem r71 (E:Env) (all:List Oper) (fr:List SV) (L:List Box) (H:List HO) (k:List SV → List Box → List HO → Prop) (i:Nat) (p q:Plan):execsP E all (.alt i p q) fr L H k = ((one1 E all (nthO all i) fr L H fun fr L H=>execsP E all p fr L H k) ∧ execsP E all q fr L H k):=by rw [nthO_eq]; rfl
theorem r72 (E:Env) (all:List Oper) (fr:List SV) (L:List Box) (H:List HO) (k:List SV → List Box → List HO → Prop) (p:Plan):execsP E all (ones [] p) fr L H k = execsP E all p fr L H k:=rfl
theorem r73 (E:Env) (all:List Oper) (fr:List SV) (L:List Box) (H:List HO) (k:List SV → List Box → List HO → Prop) (i:Nat) (l:List Nat) (p:Plan):execsP E all (ones (i :: l) p) fr L H k = one1 E all (nthO all i) fr L H fun fr L H=>execsP E all (ones l p) fr L H k:=by rw [nthO_eq]; rfl
theorem r74 (E:Env) (all:List Oper) (fr:List SV) (L:List Box) (H:List HO) (k:List SV → List Box → List HO → Prop) (i:Nat) (p:Plan):execsP E all (.pre i p) fr L H k = ((one1 E all (nthO all i) fr L H fun _ L' _=>L' = L) ∧ execsP E all p fr L H k):=by rw [nthO_eq]; rfl
theorem r75 (E:Env) (all:List Oper) (fr:List SV) (L:List Box) (H:List HO) (k:List SV → List Box → List HO → Prop) (i:Nat) (p:Plan):execsP E all (.ld i p) fr L H k = one1 E all (nthO all i) fr L [] fun fr _ _=>execsP E all p fr L H k:=by rw [nthO_eq]; rfl
theorem r76 (E:Env) (all:List Oper) (fr:List SV) (L:List Box) (H:List HO) (k:List SV → List Box → List HO → Prop) (i:Nat) (p:Plan):execsP E all (.kl i p) fr L H k = one1 E all (nthO all i) fr L H fun fr L' H=>L' = L ∧ execsP E all p fr L' H k:=by rw [nthO_eq]; rfl
theorem r77 (E:Env) (all:List Oper) (fr:List SV) (L:List Box) (H:List HO) (k:List SV → List Box → List HO → Prop) (i:Nat) (p:Plan):execsP E all (.mu i p) fr L H k = onem E all (nthO all i) fr L H fun fr L' H=>L' = L ∧ execsP E all p fr L' H k:=by rw [nthO_eq]; rfl
theorem r77a (E:Env) (all:List Oper) (fr:List SV) (L:List Box) (H:List HO) (k:List SV → List Box → List HO → Prop) (i:Nat) (p q:Plan):execsP E all (.am i p q) fr L H k = ((onem E all (nthO all i) fr L H fun fr L' H=>L' = L ∧ execsP E all p fr L' H k) ∧ execsP E all q fr L H k):=by rw [nthO_eq]; rfl
theorem r78 (E:Env) (all:List Oper) (fr:List SV) (L:List Box) (H:List HO) (k:List SV → List Box → List HO → Prop) (o:Oper):onem E all (some o) fr L H k = execs E false all [o] fr L H k:=rfl
theorem r79 (o:Oper) (l:List Oper):nthO (o :: l) 0 = some o:=rfl
theorem r80 (o:Oper) (l:List Oper) (n:Nat):nthO (o :: l) (n + 1) = nthO l n:=rfl
theorem r81 (E:Env) (all:List Oper) (fr:List SV) (L:List Box) (H:List HO) (k:List SV → List Box → List HO → Prop) (o:Oper):one1 E all (some o) fr L H k = execs E true all [o] fr L H k:=rfl
theorem r82 (i:Nat):inI i [] = false:=rfl
theorem r83 (i a b:Nat) (r:List (Nat × Nat)):inI i ((a,b) :: r) = ((decide (a ≤ i) && decide (i ≤ b)) || inI i r):=rfl
theorem r84 (i:Nat) (wr:List (Nat × Nat)) (enc:List (Nat × Value)):fits i wr enc [] [] = True:=rfl
theorem r85 (i:Nat) (wr:List (Nat × Nat)) (enc:List (Nat × Value)) (x y:SV) (r r':List SV):fits i wr enc (x :: r) (y :: r') = (fit1 (lkV i enc) (inI i wr) x y ∧ fits (i + 1) wr enc r r'):=rfl
theorem r86 (v:Value) (w:Bool) (x y:SV):fit1 (some v) w x y = isV y v:=rfl
theorem r87 (x y:SV):fit1 none true x y = True:=rfl
theorem r88 (x y:SV):fit1 none false x y = (x = y):=rfl
theorem r89 (x v:Value):isV (.v x) v = (x = v):=rfl
theorem r90 (t:Bool) (v:Value):isV (.b t) v = (Value.bool t = v):=rfl
theorem r91 (c:Operand) (fr:List SV) (yes no:List SV → Prop):cnd1 (.b true) c fr yes no = yes fr:=rfl
theorem r92 (c:Operand) (fr:List SV) (yes no:List SV → Prop):cnd1 (.b false) c fr yes no = no fr:=rfl
theorem r93 (t:Bool) (d:Nat) (fr:List SV) (yes no:List SV → Prop):cnd1 (.v (.bool t)) (.tmp d) fr yes no = ((t = true → yes (fset fr d (.b true))) ∧ (t = false → no (fset fr d (.b false)))):=rfl
theorem r94 (E:Env) (dr:Bool) (all:List Oper) (fr:List SV) (L:List Box) (H:List HO) (k:St):execs E dr all [] fr L H k = k fr L H:=rfl
theorem r95 (E:Env) (dr:Bool) (all r:List Oper) (fr:List SV) (L:List Box) (H:List HO) (k:St) (d:Option Tmp) (op:Op) (t:TypeId) (p:String) (af:Array Edge):execs E dr all ({ dst:=d,op:=op,type:=t,pos:=p,after:=af,guard:=none } :: r) fr L H k = ev2 (fun fr L H=>exec1 E dr fr L H d op fun s L H=>execs E dr all r (put fr d s) L H k) ⟨0⟩ fr L H:=rfl
theorem r96 (E:Env) (dr:Bool) (all r:List Oper) (fr:List SV) (L:List Box) (H:List HO) (k:St) (d:Option Tmp) (op:Op) (t:TypeId) (p:String) (af:Array Edge) (j:Nat) (want:Bool):execs E dr all ({ dst:=d,op:=op,type:=t,pos:=p,after:=af,guard:=some (j,want) } :: r) fr L H k = ev2 (fun fr L H=>gdS fr (dstOf all j) want (fun fr=>exec1 E dr fr L H d op fun s L H=>execs E dr all r (put fr d s) L H k) (fun fr=>execs E dr all r (put fr d (.v undef)) L H k)) ⟨0⟩ fr L H:=rfl
theorem r97 (o:Oper) (l:List Oper):dstOf (o :: l) 0 = o.dst:=rfl
theorem r98 (o:Oper) (l:List Oper) (n:Nat):dstOf (o :: l) (n + 1) = dstOf l n:=by simp [dstOf]
theorem r99 (fr:List SV) (d:Nat) (want:Bool) (yes no:List SV → Prop):gdS fr (some d) want yes no = gd1 (fget fr d) fr d want yes no:=rfl
theorem r100 (fr:List SV) (d:Nat) (yes no:List SV → Prop):gd1 (.b true) fr d true yes no = yes fr:=rfl
theorem r101 (fr:List SV) (d:Nat) (yes no:List SV → Prop):gd1 (.b true) fr d false yes no = no fr:=rfl
theorem r102 (fr:List SV) (d:Nat) (yes no:List SV → Prop):gd1 (.b false) fr d true yes no = no fr:=rfl
theorem r103 (fr:List SV) (d:Nat) (yes no:List SV → Prop):gd1 (.b false) fr d false yes no = yes fr:=rfl
theorem r104 (fr:List SV) (d:Nat) (yes no:List SV → Prop) (t:Bool):gd1 (.v (.bool t)) fr d true yes no = ((t = true → yes (fset fr d (.b true))) ∧ (t = false → no (fset fr d (.b false)))):=rfl
theorem r105 (fr:List SV) (d:Nat) (yes no:List SV → Prop):gd1 (.v undef) fr d true yes no = no fr:=rfl
theorem r106 (fr:List SV) (d:Nat) (yes no:List SV → Prop) (t:Bool):gd1 (.v (.bool t)) fr d false yes no = ((t = false → yes (fset fr d (.b false))) ∧ (t = true → no (fset fr d (.b true)))):=rfl
theorem r107 (fr:List SV) (d:Nat) (yes no:List SV → Prop):gd1 (.v undef) fr d false yes no = no fr:=rfl
theorem r108 (fr:List SV) (t:Nat):op1 fr (.tmp t) = fget fr t:=rfl
theorem r109 (fr:List SV) (t:Bool):op1 fr (.const (.bool t)) = .b t:=rfl
theorem r110 (fr:List SV) (k:IntKind) (n:Int):op1 fr (.const (.int k n)) = .v (.int k n):=rfl
theorem r111 (fr:List SV) (a:Option Addr) (n m:Nat):op1 fr (.const (.slice a n m)) = .v (.slice a n m):=rfl
theorem r112 (fr:List SV) (s:ByteArray):op1 fr (.const (.string s)) = .v (.string s):=rfl
theorem r113 (fr:List SV) (a:Option Addr):op1 fr (.const (.pointer a)) = .v (.pointer a):=rfl
theorem r114 (fr:List SV) (a:Array Value):op1 fr (.const (.agg a)) = .v (.agg a):=rfl
theorem r115 (fr:List SV) (a:Array Value):op1 fr (.const (.tuple a)) = .v (.tuple a):=rfl
theorem r116 (fr:List SV) (a:Option Nat):op1 fr (.const (.map a)) = .v (.map a):=rfl
theorem r117 (fr:List SV) (f:Go.Fn) (a b:Array Value):op1 fr (.const (.func f a b)) = .v (.func f a b):=rfl
theorem r118 (fr:List SV):op1 fr (.const .nilFunc) = .v .nilFunc:=rfl
theorem r119 (fr:List SV) (g:Nat):op1 fr (.global g) = .v (.pointer (some ⟨g,0,none⟩)):=rfl
theorem r120 (fr:List SV) (f:Nat):op1 fr (.func f) = .v (.func (.func f) #[] #[]):=rfl
theorem r121 (x:SV) (l:List SV):fget (x :: l) 0 = x:=rfl
theorem r122 (x:SV) (l:List SV) (n:Nat):fget (x :: l) (n + 1) = fget l n:=rfl
theorem r123 (x y:SV) (l:List SV):fset (x :: l) 0 y = y :: l:=rfl
theorem r124 (x y:SV) (l:List SV) (n:Nat):fset (x :: l) (n + 1) y = x :: fset l n y:=rfl
theorem r125 (fr:List SV) (d:Nat) (s:SV):put fr (some d) s = fset fr d s:=rfl
theorem r126 (fr:List SV) (s:SV):put fr none s = fr:=rfl
theorem r127 (x:Value) (K:Value → Prop):withV (.v x) K = K x:=rfl
theorem r128 (t:Bool) (K:Value → Prop):withV (.b t) K = K (.bool t):=rfl
theorem r129 (K:List Value → Prop):withVs [] K = K []:=rfl
theorem r130 (s:SV) (l:List SV) (K:List Value → Prop):withVs (s :: l) K = withV s fun x=>withVs l fun xs=>K (x :: xs):=rfl
theorem r131 (K:Option Value → Prop):optV none K = K none:=rfl
theorem r132 (s:SV) (K:Option Value → Prop):optV (some s) K = withV s fun x=>K (some x):=rfl
theorem r133 (x:Box) (l:List Box):boxAt (x :: l) 0 = x.2:=rfl
theorem r134 (x:Box) (l:List Box) (n:Nat):boxAt (x :: l) (n + 1) = boxAt l n:=rfl
theorem r135 (x:Box) (l:List Box) (y:List Value):lset (x :: l) 0 y = (x.1,y) :: l:=rfl
theorem r136 (x:Box) (l:List Box) (y:List Value) (n:Nat):lset (x :: l) (n + 1) y = x :: lset l n y:=rfl
theorem r137 (E:Env) (dr:Bool) (fr:List SV) (L:List Box) (H:List HO) (d:Option Nat) (k:SV → List Box → List HO → Prop) (x:Operand):exec1 E dr fr L H d (.move x) k = k (op1 fr x) L H:=rfl
theorem r138 (E:Env) (dr:Bool) (fr:List SV) (L:List Box) (H:List HO) (d:Option Nat) (k:SV → List Box → List HO → Prop) (x:Operand):exec1 E dr fr L H d (.assign x) k = k (op1 fr x) L H:=rfl
theorem r139 (E:Env) (dr:Bool) (fr:List SV) (L:List Box) (H:List HO) (d:Option Nat) (k:SV → List Box → List HO → Prop) (c a b:Operand):exec1 E dr fr L H d (.pick c a b) k = pickS (op1 fr c) (op1 fr a) (op1 fr b) fun s=>k s L H:=rfl
theorem r140 (E:Env) (dr:Bool) (fr:List SV) (L:List Box) (H:List HO) (d:Option Nat) (k:SV → List Box → List HO → Prop) (T:TypeId) (x:Operand):exec1 E dr fr L H d (.load T x) k = ldS E.w0 L H (ldT E.P T) (op1 fr x) fun s=>k s L H:=rfl
theorem r141 (E:Env) (dr:Bool) (fr:List SV) (L:List Box) (H:List HO) (d:Option Nat) (k:SV → List Box → List HO → Prop) (x:Operand):exec1 E dr fr L H d (.nilCheck x) k = ncS (op1 fr x) fun s=>k s L H:=rfl
theorem r142 (E:Env) (dr:Bool) (fr:List SV) (L:List Box) (H:List HO) (d:Option Nat) (k:SV → List Box → List HO → Prop) (o:BinOp) (T U:TypeId) (x y:Operand):exec1 E dr fr L H d (.binOp o T x y U) k = withV (op1 fr x) fun x=>withV (op1 fr y) fun y=>binS E.P o T x y fun s=>k s L H:=rfl
theorem r143 (E:Env) (dr:Bool) (fr:List SV) (L:List Box) (H:List HO) (d:Option Nat) (k:SV → List Box → List HO → Prop) (o:UnOp) (T:TypeId) (x:Operand):exec1 E dr fr L H d (.unOp o T x) k = unS o (op1 fr x) fun s=>k s L H:=rfl
theorem r144 (E:Env) (dr:Bool) (fr:List SV) (L:List Box) (H:List HO) (d:Option Nat) (k:SV → List Box → List HO → Prop) (S T:TypeId) (x:Operand):exec1 E dr fr L H d (.convert S T x) k = withV (op1 fr x) fun x=>cv1 (intT E.P S) (intT E.P T) x fun s=>k s L H:=cv_rule E dr fr L H d k S T x
theorem r145 (E:Env) (dr:Bool) (fr:List SV) (L:List Box) (H:List HO) (d:Option Nat) (k:SV → List Box → List HO → Prop) (f:Go.Fn) (xs ys:List Operand):exec1 E dr fr L H d (.makeFunc f xs.toArray ys.toArray) k = withVs (xs.map (op1 fr)) fun xs=>withVs (ys.map (op1 fr)) fun ys=>k (.v (.func f xs.toArray ys.toArray)) L H:=rfl
theorem r146 (E:Env) (dr:Bool) (fr:List SV) (L:List Box) (H:List HO) (d:Option Nat) (k:SV → List Box → List HO → Prop) (T:TypeId) (x:Operand) (f:Nat):exec1 E dr fr L H d (.fieldAddr T x f) k = faS (offT E.P T f) (op1 fr x) fun s=>k s L H:=rfl
theorem r147 (E:Env) (dr:Bool) (fr:List SV) (L:List Box) (H:List HO) (d:Option Nat) (k:SV → List Box → List HO → Prop) (T:TypeId) (x:Operand) (f:Nat):exec1 E dr fr L H d (.field T x f) k = withV (op1 fr x) fun x=>fldS (fldT E.P T f) x fun s=>k s L H:=rfl
theorem r148 (E:Env) (dr:Bool) (fr:List SV) (L:List Box) (H:List HO) (d:Option Nat) (k:SV → List Box → List HO → Prop) (T:TypeId) (x i:Operand):exec1 E dr fr L H d (.indexAddr T x i) k = withV (op1 fr i) fun i=>ixS (slT E.P T) (arT E.P T) (op1 fr x) i fun s=>k s L H:=rfl
theorem r149 (E:Env) (dr:Bool) (fr:List SV) (L:List Box) (H:List HO) (d:Option Nat) (k:SV → List Box → List HO → Prop) (T:TypeId) (x i:Operand):exec1 E dr fr L H d (.index T x i) k = withV (op1 fr x) fun x=>withV (op1 fr i) fun i=>idxS (arT E.P T) x i fun s=>k s L H:=rfl
theorem r150 (E:Env) (dr:Bool) (fr:List SV) (L:List Box) (H:List HO) (d:Option Nat) (k:SV → List Box → List HO → Prop) (x:Operand) (i:Nat):exec1 E dr fr L H d (.extract x i) k = withV (op1 fr x) fun x=>extS x i fun s=>k s L H:=rfl
theorem r151 (E:Env) (dr:Bool) (fr:List SV) (L:List Box) (H:List HO) (d:Option Nat) (k:SV → List Box → List HO → Prop) (T:TypeId) (ps:List (Nat × Operand)):exec1 E dr fr L H d (.build T ps.toArray) k = withVs (ps.map fun p=>op1 fr p.2) fun xs=>bldS (placesT E.P T) (zeroT E.P T) ((ps.map (·.1)).zip xs) fun s=>k s L H:=build_rule E dr fr L H d k T ps
theorem r152 (E:Env) (dr:Bool) (fr:List SV) (L:List Box) (H:List HO) (d:Option Nat) (k:SV → List Box → List HO → Prop) (T:TypeId) (x:Operand) (a b c:Option Operand):exec1 E dr fr L H d (.slice T x a b c) k = withV (op1 fr x) fun x=>optV (a.map (op1 fr)) fun a=>optV (b.map (op1 fr)) fun b=>optV (c.map (op1 fr)) fun c=>slQ (slT E.P T) (arT E.P T) x a b c fun s=>k s L H:=rfl
theorem r153 (E:Env) (dr:Bool) (fr:List SV) (L:List Box) (H:List HO) (d:Option Nat) (k:SV → List Box → List HO → Prop) (T:TypeId):exec1 E dr fr L H d (.alloc T) k = allocS E d T (zeroT E.P T) L H k:=alloc_rule E dr fr L H d k T
theorem r154 (E:Env) (dr:Bool) (fr:List SV) (L:List Box) (H:List HO) (d:Option Nat) (k:SV → List Box → List HO → Prop) (T:TypeId) (x:Operand):exec1 E dr fr L H d (.box T x) k = withV (op1 fr x) fun x=>newBox E d T (vcells x) L H k:=rfl
theorem r155 (E:Env) (dr:Bool) (fr:List SV) (L:List Box) (H:List HO) (d:Option Nat) (k:SV → List Box → List HO → Prop) (T:TypeId) (a x:Operand):exec1 E dr fr L H d (.store T a x) k = withV (op1 fr x) fun x=>stS L H (szT E.P T) (op1 fr a) x fun L H=>k (.v undef) L H:=rfl
theorem r156 (E:Env) (dr:Bool) (fr:List SV) (L:List Box) (H:List HO) (d:Option Nat) (k:SV → List Box → List HO → Prop) (T:TypeId) (n:Nat) (ps:List (Nat × Operand)):exec1 E dr fr L H d (.buildSlice T n ps.toArray) k = withVs (ps.map fun p=>op1 fr p.2) fun xs=>bsS (elT E.P T) n ((ps.map (·.1)).zip xs) L H k:=rfl
theorem r157 (E:Env) (dr:Bool) (fr:List SV) (L:List Box) (H:List HO) (d:Option Nat) (k:SV → List Box → List HO → Prop) (T:TypeId) (n c:Operand):exec1 E dr fr L H d (.makeSlice T n c) k = withV (op1 fr n) fun n=>withV (op1 fr c) fun c=>mkS (elT E.P T) n c L H k:=rfl
theorem r158 (E:Env) (dr:Bool) (fr:List SV) (L:List Box) (H:List HO) (d:Option Nat) (k:SV → List Box → List HO → Prop) (f:Operand) (as:List Operand) (ts:Array TypeId):exec1 E dr fr L H d (.call ⟨.value f,as.toArray,ts⟩) k = withVs (as.map (op1 fr)) fun args=>invS E dr (op1 fr f) args L H k:=rfl
theorem r159 (E:Env) (dr:Bool) (fr:List SV) (L:List Box) (H:List HO) (d:Option Nat) (k:SV → List Box → List HO → Prop) (x:Operand) (T:TypeId):exec1 E dr fr L H d (.call ⟨.builtin .len,#[x],#[T]⟩) k = ((slT E.P T).isSome = true ∧ withV (op1 fr x) fun x=>lenS x fun s=>k s L H):=rfl
theorem r160 (E:Env) (dr:Bool) (fr:List SV) (L:List Box) (H:List HO) (d:Option Nat) (k:SV → List Box → List HO → Prop) (x:Operand) (T:TypeId):exec1 E dr fr L H d (.call ⟨.builtin .cap,#[x],#[T]⟩) k = ((slT E.P T).isSome = true ∧ withV (op1 fr x) fun x=>capS x fun s=>k s L H):=rfl
theorem r161 (E:Env) (dr:Bool) (fr:List SV) (L:List Box) (H:List HO) (d:Option Nat) (k:SV → List Box → List HO → Prop) (x y:Operand) (ts:Array TypeId):exec1 E dr fr L H d (.call ⟨.builtin .max,#[x,y],ts⟩) k = withV (op1 fr x) fun x=>withV (op1 fr y) fun y=>mmS true x y fun s=>k s L H:=rfl
theorem r162 (E:Env) (dr:Bool) (fr:List SV) (L:List Box) (H:List HO) (d:Option Nat) (k:SV → List Box → List HO → Prop) (x y:Operand) (ts:Array TypeId):exec1 E dr fr L H d (.call ⟨.builtin .min,#[x,y],ts⟩) k = withV (op1 fr x) fun x=>withV (op1 fr y) fun y=>mmS false x y fun s=>k s L H:=rfl
theorem r163 (E:Env) (dr:Bool) (fr:List SV) (L:List Box) (H:List HO) (d:Option Nat) (k:SV → List Box → List HO → Prop) (s x:Operand) (T T':TypeId):exec1 E dr fr L H d (.call ⟨.builtin .append,#[s,x],#[T,T']⟩) k = (T' = T ∧ withV (op1 fr s) fun s=>withV (op1 fr x) fun x=>app1 (elT E.P T) E.w0 s x H fun v H=>k (.v v) L H):=rfl
theorem r164 (w0:Base) (e:TypeId × Nat × List Value × Nat) (s x:Value) (H:List HO) (K:Value → List HO → Prop):app1 (some e) w0 s x H K = hold (AppOb w0 (some e) s x H K) ⟨0⟩:=rfl
theorem r165 (E:Env) (dr:Bool) (fr:List SV) (L:List Box) (H:List HO) (d:Option Nat) (k:SV → List Box → List HO → Prop) (a:Operand) (T:TypeId):exec1 E dr fr L H d (.call ⟨.builtin .clear,#[a],#[T]⟩) k = withV (op1 fr a) fun a=>hold (ClrOb E.P E.w0 T a H fun v H=>k (.v v) L H) ⟨0⟩:=rfl
theorem r166 (E:Env) (dr:Bool) (fr:List SV) (L:List Box) (H:List HO) (d:Option Nat) (k:SV → List Box → List HO → Prop) (a x:Operand) (T T':TypeId):exec1 E dr fr L H d (.call ⟨.builtin .copy,#[a,x],#[T,T']⟩) k = withV (op1 fr a) fun a=>withV (op1 fr x) fun x=>hold (CopyOb E.P E.w0 T T' a x H fun v H=>k (.v v) L H) ⟨0⟩:=rfl
theorem r167 (E:Env) (dr:Bool) (fr:List SV) (L:List Box) (H:List HO) (d:Option Nat) (k:SV → List Box → List HO → Prop) (T:TypeId):exec1 E dr fr L H d (.makeMap T none) k = ∀ b,k (.v (.map (some b))) L (.obj b (.map #[] 0) :: H):=rfl
theorem r168 (E:Env) (dr:Bool) (fr:List SV) (L:List Box) (H:List HO) (d:Option Nat) (k:SV → List Box → List HO → Prop) (T:TypeId) (m q x:Operand):exec1 E dr fr L H d (.insert T m q x) k = withV (op1 fr m) fun m=>withV (op1 fr q) fun q=>withV (op1 fr x) fun x=>hold (InsOb E.P T m q x H fun H=>k (.v undef) L H) ⟨0⟩:=rfl
theorem r168u (E:Env) (dr:Bool) (fr:List SV) (L:List Box) (H:List HO) (d:Option Nat) (k:SV → List Box → List HO → Prop) (T:TypeId) (m q x:Operand):exec1 E dr fr L H d (.mapUpdate T m q x) k = withV (op1 fr m) fun m=>withV (op1 fr q) fun q=>withV (op1 fr x) fun x=>hold (InsOb E.P T m q x H fun H=>k (.v undef) L H) ⟨0⟩:=rfl
theorem r169 (E:Env) (dr:Bool) (fr:List SV) (L:List Box) (H:List HO) (d:Option Nat) (k:SV → List Box → List HO → Prop) (T:TypeId) (m q:Operand) (t:Bool):exec1 E dr fr L H d (.lookup T m q t) k = withV (op1 fr m) fun m=>withV (op1 fr q) fun q=>hold (LkOb E.P E.w0 T m q t H fun v=>k (.v v) L H) ⟨0⟩:=rfl
theorem r170 (K:SV → Prop) (k1 k2 k:IntKind) (n:Int):cv1 (some k1) (some k2) (.int k n) K = (k1 = k ∧ K (.v (.int k2 (k2.wrap n)))):=rfl
theorem r171 (K:SV → Prop) (a b:SV):pickS (.b true) a b K = K a:=rfl
theorem r172 (K:SV → Prop) (a b:SV):pickS (.b false) a b K = K b:=rfl
theorem r173 (K:SV → Prop) (t p q:Bool):pickS (.v (.bool t)) (.v (.bool p)) (.v (.bool q)) K = K (.v (.bool (bif t then p else q))):=by simp [pickS,withV]
theorem r174 (K:SV → Prop) (t p q:Bool):pickS (.v (.bool t)) (.v (.bool p)) (.b q) K = K (.v (.bool (bif t then p else q))):=by simp [pickS,withV]
theorem r175 (K:SV → Prop) (t p q:Bool):pickS (.v (.bool t)) (.b p) (.v (.bool q)) K = K (.v (.bool (bif t then p else q))):=by simp [pickS,withV]
theorem r176 (K:SV → Prop) (t p q:Bool):pickS (.v (.bool t)) (.b p) (.b q) K = K (.v (.bool (bif t then p else q))):=by simp [pickS,withV]
theorem r177 (K:SV → Prop) (j o:Nat):ncS (.p j o) K = K (.p j o):=rfl
theorem r178 (K:SV → Prop) (a:Addr):ncS (.v (.pointer (some a))) K = K (.v (.pointer (some a))):=rfl
theorem r179 (K:SV → Prop) (f:Nat) (x y:Array Value):ncS (.v (.func (.func f) x y)) K = K (.v (.func (.func f) x y)):=rfl
theorem r180 (K:SV → Prop) (f:Nat) (x y:Array Value):ncS (.v (.func (.yield f) x y)) K = K (.v (.func (.yield f) x y)):=rfl
theorem r181 (w0:Base) (L:List Box) (H:List HO) (k:Option Nat) (K:SV → Prop) (j o:Nat):ldS w0 L H (some k) (.p j o) K = (j < L.length ∧ ldBox (boxAt L j) o k K):=rfl
theorem r182 (w0:Base) (L:List Box) (H:List HO) (k:Option Nat) (K:SV → Prop) (a:Addr):ldS w0 L H (some k) (.v (.pointer (some a))) K = hold (LdOb w0 H a k K) ⟨0⟩:=rfl
theorem r183 (K:SV → Prop) (cs:List Value) (o:Nat):ldBox cs o none K = ldb1 (cs[o]?) K:=ldb_rule cs o K
theorem r184 (K:SV → Prop) (v:Value):ldb1 (some v) K = K (.v v):=rfl
theorem r185 (K:SV → Prop) (cs:List Value) (o n:Nat):ldBox cs o (some n) K = (o + n ≤ cs.length ∧ K (.v (.agg ((cs.drop o).take n).toArray))):=rfl
theorem r186 (P:Program) (o:BinOp) (T:TypeId) (k k':IntKind) (x y:Int) (K:SV → Prop):binS P o T (.int k x) (.int k' y) K = (sameK o k k' ∧ binI o k x y K):=rfl
theorem r187 (o:BinOp) (k:IntKind):sameK o k k = True:=by cases o <;> simp [sameK]
theorem r188 (k k':IntKind):sameK .shl k k' = True:=rfl
theorem r189 (k k':IntKind):sameK .shr k k' = True:=rfl
theorem r190 (k:IntKind) (x y:Int) (K:SV → Prop):binI .add k x y K = K (.v (.int k (k.wrap (x + y)))):=rfl
theorem r191 (k:IntKind) (x y:Int) (K:SV → Prop):binI .sub k x y K = K (.v (.int k (k.wrap (x - y)))):=rfl
theorem r192 (k:IntKind) (x y:Int) (K:SV → Prop):binI .mul k x y K = K (.v (.int k (k.wrap (x * y)))):=rfl
theorem r193 (k:IntKind) (x y:Int) (K:SV → Prop):binI .quo k x y K = (y ≠ 0 ∧ K (.v (.int k (k.wrap (x.tdiv y))))):=rfl
theorem r194 (k:IntKind) (x y:Int) (K:SV → Prop):binI .rem k x y K = (y ≠ 0 ∧ K (.v (.int k (x.tmod y)))):=rfl
theorem r195 (k:IntKind) (x y:Int) (K:SV → Prop):binI .shl k x y K = (0 ≤ y ∧ K (.v (.int k (k.wrap (x * 2 ^ (min y.toNat k.bits)))))):=rfl
theorem r196 (k:IntKind) (x y:Int) (K:SV → Prop):binI .shr k x y K = (0 ≤ y ∧ K (.v (.int k (x.fdiv (2 ^ (min y.toNat k.bits)))))):=rfl
theorem r197 (k:IntKind) (x y:Int) (K:SV → Prop):binI .and k x y K = K (.v (.int k (bitS .and k x y))):=rfl
theorem r198 (k:IntKind) (x y:Int) (K:SV → Prop):binI .or k x y K = K (.v (.int k (bitS .or k x y))):=rfl
theorem r199 (k:IntKind) (x y:Int) (K:SV → Prop):binI .xor k x y K = K (.v (.int k (bitS .xor k x y))):=rfl
theorem r200 (k:IntKind) (x y:Int) (K:SV → Prop):binI .andNot k x y K = K (.v (.int k (bitS .andNot k x y))):=rfl
theorem r201 (k:IntKind) (x y:Int) (K:SV → Prop):binI .eql k x y K = K (.v (.bool (x == y))):=rfl
theorem r202 (k:IntKind) (x y:Int) (K:SV → Prop):binI .neq k x y K = K (.v (.bool (x != y))):=rfl
theorem r203 (k:IntKind) (x y:Int) (K:SV → Prop):binI .lss k x y K = K (.v (.bool (decide (x < y)))):=rfl
theorem r204 (k:IntKind) (x y:Int) (K:SV → Prop):binI .leq k x y K = K (.v (.bool (decide (x ≤ y)))):=rfl
theorem r205 (k:IntKind) (x y:Int) (K:SV → Prop):binI .gtr k x y K = K (.v (.bool (decide (x > y)))):=rfl
theorem r206 (k:IntKind) (x y:Int) (K:SV → Prop):binI .geq k x y K = K (.v (.bool (decide (x ≥ y)))):=rfl
theorem r207 (P:Program) (T:TypeId) (a b:Bool) (K:SV → Prop):binS P .eql T (.bool a) (.bool b) K = (kdT P T = some 1 ∧ K (.v (.bool (a == b)))):=rfl
theorem r208 (P:Program) (T:TypeId) (a b:Bool) (K:SV → Prop):binS P .neq T (.bool a) (.bool b) K = (kdT P T = some 1 ∧ K (.v (.bool (!(a == b))))):=rfl
theorem r209 (P:Program) (T:TypeId) (a:Option Addr) (n m n' m':Nat) (K:SV → Prop):binS P .eql T (.slice a n m) (.slice none n' m') K = (kdT P T = some 2 ∧ K (.v (.bool a.isNone))):=rfl
theorem r210 (P:Program) (T:TypeId) (a:Option Addr) (n m n' m':Nat) (K:SV → Prop):binS P .neq T (.slice a n m) (.slice none n' m') K = (kdT P T = some 2 ∧ K (.v (.bool (!a.isNone)))):=rfl
theorem r211 (P:Program) (T:TypeId) (xs ys:Array Value) (K:SV → Prop):binS P .eql T (.agg xs) (.agg ys) K = ∃ r,EqAgg P T xs.toList ys.toList r ∧ K (.v (.bool r)):=rfl
theorem r212 (P:Program) (T:TypeId) (xs ys:Array Value) (K:SV → Prop):binS P .neq T (.agg xs) (.agg ys) K = ∃ r,EqAgg P T xs.toList ys.toList r ∧ K (.v (.bool (!r))):=rfl
theorem r213 (K:SV → Prop) (t:Bool):unS .not (.b t) K = K (.b !t):=rfl
theorem r214 (K:SV → Prop) (t:Bool):unS .not (.v (.bool t)) K = K (.v (.bool !t)):=rfl
theorem r215 (K:SV → Prop) (k:IntKind) (n:Int):unS .neg (.v (.int k n)) K = K (.v (.int k (k.wrap (0 - n)))):=rfl
theorem r216 (K:SV → Prop) (n j o:Nat):faS (some n) (.p j o) K = K (.p j (o + n)):=rfl
theorem r217 (K:SV → Prop) (n:Nat) (a:Addr):faS (some n) (.v (.pointer (some a))) K = K (.v (.pointer (some (a.add n)))):=rfl
theorem r218 (K:SV → Prop) (o:Nat) (k:Option Nat) (cs:Array Value):fldS (some (o,k)) (.agg cs) K = partS cs.toList o k K:=rfl
theorem r219 (K:SV → Prop) (cs:List Value) (o:Nat):partS cs o none K = ldb1 (cs[o]?) K:=ldb_eq (cs[o]?) K
theorem r220 (K:SV → Prop) (cs:List Value) (o n:Nat):partS cs o (some n) K = K (.v (.agg ((cs.drop o).take n).toArray)):=rfl
theorem r221 (ki:IntKind) (i:Int) (K:SV → Prop) (e sz len cap:Nat) (a:Option Addr) (ar:Option (Nat × Nat × Option Nat)):ixS (some (e,sz)) ar (.v (.slice a len cap)) (.int ki i) K = (0 ≤ i ∧ i < len ∧ ∃ ad,a = some ad ∧ K (.v (.pointer (some (ad.add (i.toNat * sz)))))):=rfl
theorem r222 (ki:IntKind) (i:Int) (K:SV → Prop) (n sz j o:Nat) (k:Option Nat):ixS none (some (n,sz,k)) (.p j o) (.int ki i) K = (0 ≤ i ∧ i < n ∧ K (.p j (o + i.toNat * sz))):=rfl
theorem r223 (ki:IntKind) (i:Int) (K:SV → Prop) (n sz:Nat) (k:Option Nat) (a:Addr):ixS none (some (n,sz,k)) (.v (.pointer (some a))) (.int ki i) K = (0 ≤ i ∧ i < n ∧ K (.v (.pointer (some (a.add (i.toNat * sz)))))):=rfl
theorem r224 (ki:IntKind) (i:Int) (K:SV → Prop) (n sz:Nat) (k:Option Nat) (cs:Array Value):idxS (some (n,sz,k)) (.agg cs) (.int ki i) K = (0 ≤ i ∧ i < n ∧ partS cs.toList (i.toNat * sz) k K):=rfl
theorem r225 (K:SV → Prop) (vs:Array Value) (i:Nat):extS (.tuple vs) i K = ldb1 (vs.toList[i]?) K:=ldb_eq (vs.toList[i]?) K
theorem r226 (d y:Nat) (K:Nat → Prop):bndS none d y K = K d:=rfl
theorem r227 (d y:Nat) (K:Nat → Prop) (k:IntKind) (i:Int):bndS (some (.int k i)) d y K = (0 ≤ i ∧ i ≤ y ∧ K i.toNat):=rfl
theorem r228 (K:SV → Prop) (e sz len cap:Nat) (a:Option Addr) (lo hi mx:Option Value):slS (some (e,sz)) (.slice a len cap) lo hi mx K = bndS mx cap cap fun m=>(mx.isSome = true → hi.isSome = true) ∧ bndS hi len m fun h=>bndS lo 0 h fun l=>K (.v (.slice (if m = l then a else a.map (·.add (l * sz))) (h - l) (m - l))):=rfl
theorem r229 (K:SV → Prop) (q:Option (TypeId × Nat)) (ar:Option (Nat × Nat × Option Nat)) (len cap:Nat) (a:Option Addr) (lo hi mx:Option Value):slQ q ar (.slice a len cap) lo hi mx K = slS q (.slice a len cap) lo hi mx K:=rfl
theorem r230 (K:SV → Prop) (q:Option (TypeId × Nat)) (n sz:Nat) (el:Option Nat) (a:Addr) (lo hi mx:Option Value):slQ q (some (n,sz,el)) (.pointer (some a)) lo hi mx K = (lo = none ∧ hi = none ∧ mx = none ∧ K (.v (.slice (some (if n = 0 then a else a.add 0)) n n))):=rfl
theorem r231 (K:SV → Prop) (a:Option Addr) (n m:Nat):lenS (.slice a n m) K = K (.v (.int .i64 n)):=rfl
theorem r232 (K:SV → Prop) (a:Option Addr) (n m:Nat):capS (.slice a n m) K = K (.v (.int .i64 m)):=rfl
theorem r233 (K:SV → Prop) (k k':IntKind) (a b:Int):mmS true (.int k a) (.int k' b) K = K (.v (.int k (max a b))):=rfl
theorem r234 (K:SV → Prop) (k k':IntKind) (a b:Int):mmS false (.int k a) (.int k' b) K = K (.v (.int k (min a b))):=rfl
theorem r235 (pl:List (Nat × Nat)) (z:List Value) (ps:List (Nat × Value)) (K:SV → Prop):bldS (some pl) (some z) ps K = bld1 (fillS pl z ps) K:=rfl
theorem r236 (K:SV → Prop) (cs:List Value):bld1 (some cs) K = K (.v (.agg cs.toArray)):=rfl
theorem r237 (pl:List (Nat × Nat)) (cs:List Value):fillS pl cs [] = some cs:=rfl
theorem r238 (pl:List (Nat × Nat)) (cs:List Value) (i:Nat) (v:Value) (r:List (Nat × Value)):fillS pl cs ((i,v) :: r) = fil1 (pl[i]?) pl cs (vcells v) r:=fill_rule pl cs i v r
theorem r239 (o n:Nat) (pl:List (Nat × Nat)) (cs vs:List Value) (r:List (Nat × Value)):fil1 (some (o,n)) pl cs vs r = if vs.length = n ∧ o + n ≤ cs.length then fillS pl (cs.take o ++ vs ++ cs.drop (o + n)) r else none:=rfl
theorem r240 (k:IntKind) (n:Int):vcells (.int k n) = [.int k n]:=rfl
theorem r241 (k:IntKind) (n:Int):Value.oneCell' (.int k n) = true:=rfl
theorem r242 (t:Bool):vcells (.bool t) = [.bool t]:=rfl
theorem r243 (t:Bool):Value.oneCell' (.bool t) = true:=rfl
theorem r244 (a:Option Addr) (n m:Nat):vcells (.slice a n m) = [.slice a n m]:=rfl
theorem r245 (a:Option Addr) (n m:Nat):Value.oneCell' (.slice a n m) = true:=rfl
theorem r246 (s:ByteArray):vcells (.string s) = [.string s]:=rfl
theorem r247 (s:ByteArray):Value.oneCell' (.string s) = true:=rfl
theorem r248 (a:Option Addr):vcells (.pointer a) = [.pointer a]:=rfl
theorem r249 (a:Option Addr):Value.oneCell' (.pointer a) = true:=rfl
theorem r250 (a:Option Nat):vcells (.map a) = [.map a]:=rfl
theorem r251 (a:Option Nat):Value.oneCell' (.map a) = true:=rfl
theorem r252 (f:Go.Fn) (a b:Array Value):vcells (.func f a b) = [.func f a b]:=rfl
theorem r253 (f:Go.Fn) (a b:Array Value):Value.oneCell' (.func f a b) = true:=rfl
theorem r254 :vcells .nilFunc = [.nilFunc]:=rfl
theorem r255 :Value.oneCell' .nilFunc = true:=rfl
theorem r256 (l:List Value):vcells (.agg l.toArray) = l:=rfl
theorem r257 (E:Env) (T:TypeId) (cs:List Value) (L:List Box) (H:List HO) (k:SV → List Box → List HO → Prop) (d:Nat):newBox E (some d) T cs L H k = nb1 (inRe d E.re) T cs L H k:=nb_rule E T cs L H k d
theorem r258 (d:Nat):inRe d [] = false:=rfl
theorem r259 (d e:Nat) (l:List Nat):inRe d (e :: l) = bif d == e then true else inRe d l:=rfl
theorem r260 (T:TypeId) (cs:List Value) (L:List Box) (H:List HO) (k:SV → List Box → List HO → Prop):nb1 true T cs L H k = ∀ b,k (.v (.pointer (some ⟨b,0,none⟩))) L (.cells b T cs :: H):=rfl
theorem r261 (T:TypeId) (cs:List Value) (L:List Box) (H:List HO) (k:SV → List Box → List HO → Prop):nb1 false T cs L H k = k (.p L.length 0) (L ++ [(T,cs)]) H:=rfl
theorem r262 (E:Env) (T:TypeId) (d:Option Nat) (cs:List Value) (L:List Box) (H:List HO) (k:SV → List Box → List HO → Prop):allocS E d T (some cs) L H k = newBox E d T cs L H k:=rfl
theorem r263 (L:List Box) (H:List HO) (n:Option Nat) (x:Value) (K:List Box → List HO → Prop) (j o:Nat):stS L H n (.p j o) x K = (n = some (vcells x).length ∧ (vcells x).all (·.oneCell') = true ∧ j < L.length ∧ o + (vcells x).length ≤ (boxAt L j).length ∧ K (lset L j ((boxAt L j).take o ++ vcells x ++ (boxAt L j).drop (o + (vcells x).length))) H):=rfl
theorem r264 (L:List Box) (H:List HO) (n:Option Nat) (x:Value) (K:List Box → List HO → Prop) (a:Addr):stS L H n (.v (.pointer (some a))) x K = (n = some (vcells x).length ∧ (vcells x).all (·.oneCell') = true ∧ wr1 (vcells x) H a fun H=>K L H):=rfl
theorem r265 (x:Value) (xs:List Value) (H:List HO) (a:Addr) (K:List HO → Prop):wr1 (x :: xs) H a K = hold (WrOb H a (x :: xs) K) ⟨0⟩:=rfl
theorem r266 (e sz bytes:Nat) (z:List Value) (ki kj:IntKind) (n c:Int) (L:List Box) (H:List HO) (k:SV → List Box → List HO → Prop):mkS (some (e,sz,z,bytes)) (.int ki n) (.int kj c) L H k = (0 ≤ n ∧ n ≤ c ∧ c * bytes ≤ 140737488355328 ∧ ∀ b,k (.v (.slice (some ⟨b,0,none⟩) n.toNat c.toNat)) L (.row (.slice (some ⟨b,0,none⟩) n.toNat c.toNat) e sz (zerosL n.toNat z) :: H)):=rfl
theorem r267 (e sz bytes:Nat) (z:List Value) (n:Nat) (ps:List (Nat × Value)) (L:List Box) (H:List HO) (k:SV → List Box → List HO → Prop):bsS (some (e,sz,z,bytes)) n ps L H k = (n * sz ≤ 16777216 ∧ bs1 (fillS (slotsL n 0 sz) (zersL n z) ps) fun cs=>∀ b,k (.v (.slice (some ⟨b,0,none⟩) n n)) L (.row (.slice (some ⟨b,0,none⟩) n n) e sz cs :: H)):=bs_rule e sz bytes z n ps L H k
theorem r268 (i sz:Nat):slotsL 0 i sz = []:=rfl
theorem r269 (n i sz:Nat):slotsL (n + 1) i sz = (i * sz,sz) :: slotsL n (i + 1) sz:=rfl
theorem r270 (z:List Value):zersL 0 z = []:=rfl
theorem r271 (n:Nat) (z:List Value):zersL (n + 1) z = z ++ zersL n z:=rfl
theorem r272 (cs:List Value) (K:List Value → Prop):bs1 (some cs) K = K cs:=rfl
theorem r273 (E:Env) (dr:Bool) (args:List Value) (L:List Box) (H:List HO) (k:SV → List Box → List HO → Prop) (g:Nat) (first cap:List Value):invS E dr (.v (.func (.func g) first.toArray cap.toArray)) args L H k = (CallT E.P g ∧ call1 (E.det g (first ++ args ++ cap)) E dr g (first ++ args ++ cap) L H k):=inv_rule E dr args L H k g first cap
theorem r274 (E:Env) (dr:Bool) (args:List Value) (L:List Box) (H:List HO) (k:SV → List Box → List HO → Prop) (l:Nat) (first cap:List Value):invS E dr (.v (.func (.yield l) first.toArray cap.toArray)) args L H k = yld1 (first ++ args) E dr l L H k:=rfl
theorem r275 (E:Env) (dr:Bool) (L:List Box) (H:List HO) (k:SV → List Box → List HO → Prop) (l:Nat) (a b:Value):yld1 [a,b] E dr l L H k = hold (CallOb E.P E.w0 dr (.yield l) [a,b] H fun v H=>k (.v v) L H) ⟨0⟩:=rfl
theorem r276 (E:Env) (dr:Bool) (L:List Box) (H:List HO) (k:SV → List Box → List HO → Prop) (l:Nat) (a:Value):yld1 [a] E dr l L H k = hold (CallOb E.P E.w0 dr (.yield l) [a] H fun v H=>k (.v v) L H) ⟨0⟩:=rfl
theorem r277 (E:Env) (dr:Bool) (args:List Value) (L:List Box) (H:List HO) (k:SV → List Box → List HO → Prop) (g:Nat) (v:Value):call1 (some v) E dr g args L H k = k (.v v) L H:=rfl
theorem r278 (E:Env) (dr:Bool) (args:List Value) (L:List Box) (H:List HO) (k:SV → List Box → List HO → Prop) (g:Nat):call1 none E dr g args L H k = hold (CallOb E.P E.w0 dr (.fn g) args H fun v H=>k (.v v) L H) ⟨0⟩:=rfl
theorem r279 (E:Env) (fr:List SV) (L:List Box) (H:List HO) (K:List Value → Prop):resK E [] fr L H K = K []:=rfl
theorem r280 (E:Env) (rs:List ResultVar) (fr:List SV) (L:List Box) (H:List HO) (K:List Value → Prop) (t:Nat):resK E (.tmp t :: rs) fr L H K = withV (fget fr t) fun x=>resK E rs fr L H fun xs=>K (x :: xs):=rfl
theorem r281 (E:Env) (rs:List ResultVar) (fr:List SV) (L:List Box) (H:List HO) (K:List Value → Prop) (a T:Nat):resK E (.cell a T :: rs) fr L H K = ldS E.w0 L H (ldT E.P T) (fget fr a) fun s=>withV s fun x=>resK E rs fr L H fun xs=>K (x :: xs):=rfl
theorem r282 (x:Value):tupV [x] = x:=rfl
theorem r283 :tupV [] = .tuple #[]:=rfl
theorem r284 (x y:Value):tupV [x,y] = .tuple #[x,y]:=rfl
theorem r285 (x y z:Value):tupV [x,y,z] = .tuple #[x,y,z]:=rfl
theorem r286 (args:List Value) (n:Nat):initF args n = args.map SV.v ++ List.replicate (n - args.length) (.v undef):=rfl
theorem sx0:
  (∀ (E:Env) (Q:XSt) (fr:List SV) (L:List Box) (H:List HO),W E .skip Q fr L H = Q .nxt fr L H) ∧
  (∀ (E:Env) (Q:XSt) (fr:List SV) (L:List Box) (H:List HO),W E .ret Q fr L H = Q .ret fr L H) ∧
  (∀ (E:Env) (Q:XSt) (fr:List SV) (L:List Box) (H:List HO) (i:Nat),W E (.exit i) Q fr L H = Q (.ext i) fr L H) ∧
  (∀ (E:Env) (Q:XSt) (fr:List SV) (L:List Box) (H:List HO) (a b:Code),W E (.seq a b) Q fr L H = seq1 (cutL E.cuts a b) E a b Q fr L H) ∧
  (∀ (E:Env) (Q:XSt) (fr:List SV) (L:List Box) (H:List HO) (a b:Code),seq1 false E a b Q fr L H = W E a (seqQ (W E b Q) Q) fr L H) ∧
  (∀ (E:Env) (Q:XSt) (fr:List SV) (L:List Box) (H:List HO) (a b:Code),seq1 true E a b Q fr L H = ev3 (fun fr L H=>CutOb E.w0 (W E a) (W E b Q) Q fr L H) ⟨0⟩ fr L H) ∧
  (∀ (a b:Code),cutL [] a b = false) ∧
  (∀ (i:Nat) (l:List Nat) (a b:Code),cutL (i :: l) a b = orB (inCut (headR b) (i :: l)) (inCut (tailR a) (i :: l))) ∧
  (∀ (b:Bool),orB true b = true) ∧
  (∀ (b:Bool),orB false b = b) ∧
  (∀ (i:Nat) (o:Array Oper) (d:Bool),headR (.region i o d) = 2 * i) ∧
  (∀ (a b:Code),headR (.seq a b) = headR a) ∧
  (∀ (i:Nat) (a:Code),headR (.block i a) = headR a) ∧
  (∀ (a:Code),headR (.loop a) = headR a) ∧
  (∀ (c:Operand) (a b:Code),headR (.cond c a b) = 1000000) ∧
  (∀ (i:Nat),headR (.exit i) = 1000000) ∧
  (headR .ret = 1000000) ∧
  (headR .skip = 1000000) ∧
  (∀ (g:Operand) (ps:Array Tmp) (a b:Code),headR (.rangeFunc g ps a b) = 1000000) ∧
  (∀ (i:Nat) (o:Array Oper) (d:Bool),tailR (.region i o d) = 2 * i + 1) ∧
  (∀ (a b:Code),tailR (.seq a b) = tailR b) ∧
  (∀ (i:Nat) (a:Code),tailR (.block i a) = 1000000) ∧
  (∀ (a:Code),tailR (.loop a) = 1000000) ∧
  (∀ (c:Operand) (a b:Code),tailR (.cond c a b) = 1000000) ∧
  (∀ (i:Nat),tailR (.exit i) = 1000000) ∧
  (tailR .ret = 1000000) ∧
  (tailR .skip = 1000000) ∧
  (∀ (g:Operand) (ps:Array Tmp) (a b:Code),tailR (.rangeFunc g ps a b) = 1000000) ∧
  (∀ (i:Nat),inCut i [] = false) ∧
  (∀ (i j:Nat) (l:List Nat),inCut i (j :: l) = bif i == j then true else inCut i l) ∧
  (∀ {σ:Type} (w0:Base) (wr:List (Nat × Nat)) (enc:σ → List (Nat × Value)) (Lf:σ → List Box) (Inv:σ → List HO → Prop) (fr:List SV) (n:Nat) (Q:XSt) (fr':List SV) (L':List Box) (H':List HO),cutQ w0 wr enc Lf Inv fr n Q .nxt fr' L' H' = ∃ s' H2,fits 0 wr (enc s') fr fr' ∧ L'.take n = Lf s' ∧ HImp w0 H' H2 ∧ Inv s' H2) ∧
  (∀ {σ:Type} (w0:Base) (wr:List (Nat × Nat)) (enc:σ → List (Nat × Value)) (Lf:σ → List Box) (Inv:σ → List HO → Prop) (fr:List SV) (n:Nat) (Q:XSt) (fr':List SV) (L':List Box) (H':List HO),cutQ w0 wr enc Lf Inv fr n Q .ret fr' L' H' = Q .ret fr' L' H') ∧
  (∀ {σ:Type} (w0:Base) (wr:List (Nat × Nat)) (enc:σ → List (Nat × Value)) (Lf:σ → List Box) (Inv:σ → List HO → Prop) (fr:List SV) (n:Nat) (Q:XSt) (fr':List SV) (L':List Box) (H':List HO) (i:Nat),cutQ w0 wr enc Lf Inv fr n Q (.ext i) fr' L' H' = Q (.ext i) fr' L' H') ∧
  (∀ (E:Env) (Q:XSt) (fr:List SV) (L:List Box) (H:List HO) (i:Nat) (a:Code),W E (.block i a) Q fr L H = W E a (blkQ i Q) fr L H) ∧
  (∀ (E:Env) (Q:XSt) (fr:List SV) (L:List Box) (H:List HO) (i:Nat) (l:List Oper),W E (.region i l.toArray false) Q fr L H = execs E false l l fr L H (Q .nxt)) ∧
  (∀ (E:Env) (Q:XSt) (fr:List SV) (L:List Box) (H:List HO) (i:Nat) (l:List Oper),W E (.region i l.toArray true) Q fr L H = planS E (lkO i E.ord) l fr L H (Q .nxt)) ∧
  (∀ (E:Env) (Q:XSt) (fr:List SV) (L:List Box) (H:List HO) (c:Operand) (a b:Code),W E (.cond c a b) Q fr L H = cnd1 (op1 fr c) c fr (fun fr=>W E a Q fr L H) (fun fr=>W E b Q fr L H)) ∧
  (∀ (E:Env) (Q:XSt) (fr:List SV) (L:List Box) (H:List HO) (a:Code),W E (.loop a) Q fr L H = ev3 (fun fr L H=>LoopOb E.w0 (W E a) Q fr L H) ⟨0⟩ fr L H) ∧
  (∀ (E:Env) (Q:XSt) (fr:List SV) (L:List Box) (H:List HO) (g:Operand) (ps:List Tmp) (a b:Code),W E (.rangeFunc g ps.toArray a b) Q fr L H = rng1 (op1 fr g) E.P E.w0 (W E a) (W E b) ps Q fr L H) ∧
  (∀ (v:Value) (P:Program) (w0:Base) (Ba Bb:XSt → St) (ps:List Tmp) (Q:XSt) (fr:List SV) (L:List Box) (H:List HO),rng1 (.v v) P w0 Ba Bb ps Q fr L H = ev3 (fun fr L H=>RangeOb P w0 Ba Bb (.v v) ps Q fr L H) ⟨0⟩ fr L H) ∧
  (∀ (K:St) (Q:XSt),seqQ K Q .nxt = K):=
 ⟨@r0,@r1,@r2,@r3,@r4,@r5,@r6,@r7,@r8,@r9,@r10,@r11,@r12,@r13,@r14,@r15,@r16,@r17,@r18,@r19,@r20,@r21,@r22,@r23,@r24,@r25,@r26,@r27,@r28,@r29,@r30,@r31,@r32,@r33,@r34,@r35,@r36,@r37,@r38,@r39,@r40⟩
theorem sx1:
  (∀ (K:St) (Q:XSt),seqQ K Q .ret = Q .ret) ∧
  (∀ (K:St) (Q:XSt) (i:Nat),seqQ K Q (.ext i) = Q (.ext i)) ∧
  (∀ (i:Nat) (Q:XSt),blkQ i Q .nxt = Q .nxt) ∧
  (∀ (i:Nat) (Q:XSt),blkQ i Q .ret = Q .ret) ∧
  (∀ (i j:Nat) (Q:XSt),blkQ i Q (.ext j) = bif j == i then Q .nxt else Q (.ext j)) ∧
  (∀ (E:Env) (rs:List ResultVar) (Post:Value → List HO → Prop) (fr:List SV) (L:List Box) (H:List HO),retQ E rs Post .nxt fr L H = resK E rs fr L H fun vs=>Post (tupV vs) H) ∧
  (∀ (E:Env) (rs:List ResultVar) (Post:Value → List HO → Prop) (fr:List SV) (L:List Box) (H:List HO),retQ E rs Post .ret fr L H = resK E rs fr L H fun vs=>Post (tupV vs) H) ∧
  (∀ (K:St) (fr:List SV) (L:List Box) (H:List HO),assignQ K .nxt fr L H = K fr L H) ∧
  (∀ {σ:Type} (w0:Base) (wr:List (Nat × Nat)) (enc:σ → List (Nat × Value)) (Lf:σ → List Box) (Inv:σ → List HO → Prop) (μ:σ → Nat) (fr:List SV) (n m:Nat) (Q:XSt) (fr':List SV) (L':List Box) (H':List HO),loopQ w0 wr enc Lf Inv μ fr n m Q .nxt fr' L' H' = ∃ s' H2,fits 0 wr (enc s') fr fr' ∧ L'.take n = Lf s' ∧ HImp w0 H' H2 ∧ Inv s' H2 ∧ μ s' < m) ∧
  (∀ {σ:Type} (w0:Base) (wr:List (Nat × Nat)) (enc:σ → List (Nat × Value)) (Lf:σ → List Box) (Inv:σ → List HO → Prop) (μ:σ → Nat) (fr:List SV) (n m:Nat) (Q:XSt) (fr':List SV) (L':List Box) (H':List HO),loopQ w0 wr enc Lf Inv μ fr n m Q .ret fr' L' H' = Q .ret fr' L' H') ∧
  (∀ {σ:Type} (w0:Base) (wr:List (Nat × Nat)) (enc:σ → List (Nat × Value)) (Lf:σ → List Box) (Inv:σ → List HO → Prop) (μ:σ → Nat) (fr:List SV) (n m:Nat) (Q:XSt) (fr':List SV) (L':List Box) (H':List HO) (i:Nat),loopQ w0 wr enc Lf Inv μ fr n m Q (.ext i) fr' L' H' = Q (.ext i) fr' L' H') ∧
  (∀ (w0:Base) (n:Nat) (I:List Box → List HO → Prop) (Q:XSt) (fr fr2:List SV) (L2:List Box) (H2:List HO),rangeQ w0 n I Q fr .nxt fr2 L2 H2 = ∃ H3,HImp w0 H2 H3 ∧ I (L2.take n) H3) ∧
  (∀ (w0:Base) (n:Nat) (I:List Box → List HO → Prop) (Q:XSt) (fr fr2:List SV) (L2:List Box) (H2:List HO),rangeQ w0 n I Q fr .ret fr2 L2 H2 = ∃ H3,HImp w0 H2 H3 ∧ Q .ret fr (L2.take n) H3) ∧
  (∀ (w0:Base) (n:Nat) (I:List Box → List HO → Prop) (Q:XSt) (fr fr2:List SV) (L2:List Box) (H2:List HO) (i:Nat),rangeQ w0 n I Q fr (.ext i) fr2 L2 H2 = ∃ H3,HImp w0 H2 H3 ∧ Q (.ext i) fr (L2.take n) H3) ∧
  (∀ (fr:List SV) (t:Nat) (ts:List Nat) (v:Value) (vs:List Value),setPs fr (t :: ts) (v :: vs) = setPs (fset fr t (.v v)) ts vs) ∧
  (∀ (fr:List SV),setPs fr [] [] = fr) ∧
  (∀ (i:Nat) (wr:List (Nat × Nat)) (enc:List (Nat × Value)) (g:Nat → Value),hv i wr enc g [] = []) ∧
  (∀ (i:Nat) (wr:List (Nat × Nat)) (enc:List (Nat × Value)) (g:Nat → Value) (x:SV) (r:List SV),hv i wr enc g (x :: r) = hv1 (lkV i enc) (inI i wr) (g i) x :: hv (i + 1) wr enc g r) ∧
  (∀ (v:Value) (w:Bool) (g:Value) (x:SV),hv1 (some v) w g x = .v v) ∧
  (∀ (g:Value) (x:SV),hv1 none true g x = .v g) ∧
  (∀ (g:Value) (x:SV),hv1 none false g x = x) ∧
  (∀ (i:Nat),lkV i [] = none) ∧
  (∀ (i j:Nat) (v:Value) (r:List (Nat × Value)),lkV i ((j,v) :: r) = bif i == j then some v else lkV i r) ∧
  (∀ (i:Nat),lkO i [] = none) ∧
  (∀ (i j:Nat) (v:Plan) (r:List (Nat × Plan)),lkO i ((j,v) :: r) = bif i == j then some v else lkO i r) ∧
  (∀ (E:Env) (all:List Oper) (fr:List SV) (L:List Box) (H:List HO) (k:List SV → List Box → List HO → Prop),planS E none all fr L H k = execs E true all all fr L H k) ∧
  (∀ (E:Env) (all:List Oper) (fr:List SV) (L:List Box) (H:List HO) (k:List SV → List Box → List HO → Prop) (p:Plan),planS E (some p) all fr L H k = execsP E all p fr L H k) ∧
  (∀ (E:Env) (all:List Oper) (fr:List SV) (L:List Box) (H:List HO) (k:List SV → List Box → List HO → Prop),execsP E all .fin fr L H k = k fr L H) ∧
  (∀ (E:Env) (all:List Oper) (fr:List SV) (L:List Box) (H:List HO) (k:List SV → List Box → List HO → Prop),execsP E all .no fr L H k = True) ∧
  (∀ (E:Env) (all:List Oper) (fr:List SV) (L:List Box) (H:List HO) (k:List SV → List Box → List HO → Prop) (i:Nat) (p:Plan),execsP E all (.one i p) fr L H k = one1 E all (nthO all i) fr L H fun fr L H=>execsP E all p fr L H k) ∧
  (∀ (E:Env) (all:List Oper) (fr:List SV) (L:List Box) (H:List HO) (k:List SV → List Box → List HO → Prop) (i:Nat) (p q:Plan),execsP E all (.alt i p q) fr L H k = ((one1 E all (nthO all i) fr L H fun fr L H=>execsP E all p fr L H k) ∧ execsP E all q fr L H k)) ∧
  (∀ (E:Env) (all:List Oper) (fr:List SV) (L:List Box) (H:List HO) (k:List SV → List Box → List HO → Prop) (p:Plan),execsP E all (ones [] p) fr L H k = execsP E all p fr L H k) ∧
  (∀ (E:Env) (all:List Oper) (fr:List SV) (L:List Box) (H:List HO) (k:List SV → List Box → List HO → Prop) (i:Nat) (l:List Nat) (p:Plan),execsP E all (ones (i :: l) p) fr L H k = one1 E all (nthO all i) fr L H fun fr L H=>execsP E all (ones l p) fr L H k) ∧
  (∀ (E:Env) (all:List Oper) (fr:List SV) (L:List Box) (H:List HO) (k:List SV → List Box → List HO → Prop) (i:Nat) (p:Plan),execsP E all (.pre i p) fr L H k = ((one1 E all (nthO all i) fr L H fun _ L' _=>L' = L) ∧ execsP E all p fr L H k)) ∧
  (∀ (E:Env) (all:List Oper) (fr:List SV) (L:List Box) (H:List HO) (k:List SV → List Box → List HO → Prop) (i:Nat) (p:Plan),execsP E all (.ld i p) fr L H k = one1 E all (nthO all i) fr L [] fun fr _ _=>execsP E all p fr L H k) ∧
  (∀ (E:Env) (all:List Oper) (fr:List SV) (L:List Box) (H:List HO) (k:List SV → List Box → List HO → Prop) (i:Nat) (p:Plan),execsP E all (.kl i p) fr L H k = one1 E all (nthO all i) fr L H fun fr L' H=>L' = L ∧ execsP E all p fr L' H k) ∧
  (∀ (E:Env) (all:List Oper) (fr:List SV) (L:List Box) (H:List HO) (k:List SV → List Box → List HO → Prop) (i:Nat) (p:Plan),execsP E all (.mu i p) fr L H k = onem E all (nthO all i) fr L H fun fr L' H=>L' = L ∧ execsP E all p fr L' H k) ∧
  (∀ (E:Env) (all:List Oper) (fr:List SV) (L:List Box) (H:List HO) (k:List SV → List Box → List HO → Prop) (i:Nat) (p q:Plan),execsP E all (.am i p q) fr L H k = ((onem E all (nthO all i) fr L H fun fr L' H=>L' = L ∧ execsP E all p fr L' H k) ∧ execsP E all q fr L H k)) ∧
  (∀ (E:Env) (all:List Oper) (fr:List SV) (L:List Box) (H:List HO) (k:List SV → List Box → List HO → Prop) (o:Oper),onem E all (some o) fr L H k = execs E false all [o] fr L H k) ∧
  (∀ (o:Oper) (l:List Oper),nthO (o :: l) 0 = some o) ∧
  (∀ (o:Oper) (l:List Oper) (n:Nat),nthO (o :: l) (n + 1) = nthO l n) ∧
  (∀ (E:Env) (all:List Oper) (fr:List SV) (L:List Box) (H:List HO) (k:List SV → List Box → List HO → Prop) (o:Oper),one1 E all (some o) fr L H k = execs E true all [o] fr L H k):=
 ⟨@r41,@r42,@r43,@r44,@r45,@r46,@r47,@r48,@r49,@r50,@r51,@r52,@r53,@r54,@r55,@r56,@r57,@r58,@r59,@r60,@r61,@r62,@r63,@r64,@r65,@r66,@r67,@r68,@r69,@r70,@r71,@r72,@r73,@r74,@r75,@r76,@r77,@r77a,@r78,@r79,@r80,@r81⟩
theorem sx2:
  (∀ (i:Nat),inI i [] = false) ∧
  (∀ (i a b:Nat) (r:List (Nat × Nat)),inI i ((a,b) :: r) = ((decide (a ≤ i) && decide (i ≤ b)) || inI i r)) ∧
  (∀ (i:Nat) (wr:List (Nat × Nat)) (enc:List (Nat × Value)),fits i wr enc [] [] = True) ∧
  (∀ (i:Nat) (wr:List (Nat × Nat)) (enc:List (Nat × Value)) (x y:SV) (r r':List SV),fits i wr enc (x :: r) (y :: r') = (fit1 (lkV i enc) (inI i wr) x y ∧ fits (i + 1) wr enc r r')) ∧
  (∀ (v:Value) (w:Bool) (x y:SV),fit1 (some v) w x y = isV y v) ∧
  (∀ (x y:SV),fit1 none true x y = True) ∧
  (∀ (x y:SV),fit1 none false x y = (x = y)) ∧
  (∀ (x v:Value),isV (.v x) v = (x = v)) ∧
  (∀ (t:Bool) (v:Value),isV (.b t) v = (Value.bool t = v)) ∧
  (∀ (c:Operand) (fr:List SV) (yes no:List SV → Prop),cnd1 (.b true) c fr yes no = yes fr) ∧
  (∀ (c:Operand) (fr:List SV) (yes no:List SV → Prop),cnd1 (.b false) c fr yes no = no fr) ∧
  (∀ (t:Bool) (d:Nat) (fr:List SV) (yes no:List SV → Prop),cnd1 (.v (.bool t)) (.tmp d) fr yes no = ((t = true → yes (fset fr d (.b true))) ∧ (t = false → no (fset fr d (.b false))))) ∧
  (∀ (E:Env) (dr:Bool) (all:List Oper) (fr:List SV) (L:List Box) (H:List HO) (k:St),execs E dr all [] fr L H k = k fr L H) ∧
  (∀ (E:Env) (dr:Bool) (all r:List Oper) (fr:List SV) (L:List Box) (H:List HO) (k:St) (d:Option Tmp) (op:Op) (t:TypeId) (p:String) (af:Array Edge),execs E dr all ({ dst:=d,op:=op,type:=t,pos:=p,after:=af,guard:=none } :: r) fr L H k = ev2 (fun fr L H=>exec1 E dr fr L H d op fun s L H=>execs E dr all r (put fr d s) L H k) ⟨0⟩ fr L H) ∧
  (∀ (E:Env) (dr:Bool) (all r:List Oper) (fr:List SV) (L:List Box) (H:List HO) (k:St) (d:Option Tmp) (op:Op) (t:TypeId) (p:String) (af:Array Edge) (j:Nat) (want:Bool),execs E dr all ({ dst:=d,op:=op,type:=t,pos:=p,after:=af,guard:=some (j,want) } :: r) fr L H k = ev2 (fun fr L H=>gdS fr (dstOf all j) want (fun fr=>exec1 E dr fr L H d op fun s L H=>execs E dr all r (put fr d s) L H k) (fun fr=>execs E dr all r (put fr d (.v undef)) L H k)) ⟨0⟩ fr L H) ∧
  (∀ (o:Oper) (l:List Oper),dstOf (o :: l) 0 = o.dst) ∧
  (∀ (o:Oper) (l:List Oper) (n:Nat),dstOf (o :: l) (n + 1) = dstOf l n) ∧
  (∀ (fr:List SV) (d:Nat) (want:Bool) (yes no:List SV → Prop),gdS fr (some d) want yes no = gd1 (fget fr d) fr d want yes no) ∧
  (∀ (fr:List SV) (d:Nat) (yes no:List SV → Prop),gd1 (.b true) fr d true yes no = yes fr) ∧
  (∀ (fr:List SV) (d:Nat) (yes no:List SV → Prop),gd1 (.b true) fr d false yes no = no fr) ∧
  (∀ (fr:List SV) (d:Nat) (yes no:List SV → Prop),gd1 (.b false) fr d true yes no = no fr) ∧
  (∀ (fr:List SV) (d:Nat) (yes no:List SV → Prop),gd1 (.b false) fr d false yes no = yes fr) ∧
  (∀ (fr:List SV) (d:Nat) (yes no:List SV → Prop) (t:Bool),gd1 (.v (.bool t)) fr d true yes no = ((t = true → yes (fset fr d (.b true))) ∧ (t = false → no (fset fr d (.b false))))) ∧
  (∀ (fr:List SV) (d:Nat) (yes no:List SV → Prop),gd1 (.v undef) fr d true yes no = no fr) ∧
  (∀ (fr:List SV) (d:Nat) (yes no:List SV → Prop) (t:Bool),gd1 (.v (.bool t)) fr d false yes no = ((t = false → yes (fset fr d (.b false))) ∧ (t = true → no (fset fr d (.b true))))) ∧
  (∀ (fr:List SV) (d:Nat) (yes no:List SV → Prop),gd1 (.v undef) fr d false yes no = no fr) ∧
  (∀ (fr:List SV) (t:Nat),op1 fr (.tmp t) = fget fr t) ∧
  (∀ (fr:List SV) (t:Bool),op1 fr (.const (.bool t)) = .b t) ∧
  (∀ (fr:List SV) (k:IntKind) (n:Int),op1 fr (.const (.int k n)) = .v (.int k n)) ∧
  (∀ (fr:List SV) (a:Option Addr) (n m:Nat),op1 fr (.const (.slice a n m)) = .v (.slice a n m)) ∧
  (∀ (fr:List SV) (s:ByteArray),op1 fr (.const (.string s)) = .v (.string s)) ∧
  (∀ (fr:List SV) (a:Option Addr),op1 fr (.const (.pointer a)) = .v (.pointer a)) ∧
  (∀ (fr:List SV) (a:Array Value),op1 fr (.const (.agg a)) = .v (.agg a)) ∧
  (∀ (fr:List SV) (a:Array Value),op1 fr (.const (.tuple a)) = .v (.tuple a)) ∧
  (∀ (fr:List SV) (a:Option Nat),op1 fr (.const (.map a)) = .v (.map a)) ∧
  (∀ (fr:List SV) (f:Go.Fn) (a b:Array Value),op1 fr (.const (.func f a b)) = .v (.func f a b)) ∧
  (∀ (fr:List SV),op1 fr (.const .nilFunc) = .v .nilFunc) ∧
  (∀ (fr:List SV) (g:Nat),op1 fr (.global g) = .v (.pointer (some ⟨g,0,none⟩))) ∧
  (∀ (fr:List SV) (f:Nat),op1 fr (.func f) = .v (.func (.func f) #[] #[])) ∧
  (∀ (x:SV) (l:List SV),fget (x :: l) 0 = x) ∧
  (∀ (x:SV) (l:List SV) (n:Nat),fget (x :: l) (n + 1) = fget l n):=
 ⟨@r82,@r83,@r84,@r85,@r86,@r87,@r88,@r89,@r90,@r91,@r92,@r93,@r94,@r95,@r96,@r97,@r98,@r99,@r100,@r101,@r102,@r103,@r104,@r105,@r106,@r107,@r108,@r109,@r110,@r111,@r112,@r113,@r114,@r115,@r116,@r117,@r118,@r119,@r120,@r121,@r122⟩
theorem sx3:
  (∀ (x y:SV) (l:List SV),fset (x :: l) 0 y = y :: l) ∧
  (∀ (x y:SV) (l:List SV) (n:Nat),fset (x :: l) (n + 1) y = x :: fset l n y) ∧
  (∀ (fr:List SV) (d:Nat) (s:SV),put fr (some d) s = fset fr d s) ∧
  (∀ (fr:List SV) (s:SV),put fr none s = fr) ∧
  (∀ (x:Value) (K:Value → Prop),withV (.v x) K = K x) ∧
  (∀ (t:Bool) (K:Value → Prop),withV (.b t) K = K (.bool t)) ∧
  (∀ (K:List Value → Prop),withVs [] K = K []) ∧
  (∀ (s:SV) (l:List SV) (K:List Value → Prop),withVs (s :: l) K = withV s fun x=>withVs l fun xs=>K (x :: xs)) ∧
  (∀ (K:Option Value → Prop),optV none K = K none) ∧
  (∀ (s:SV) (K:Option Value → Prop),optV (some s) K = withV s fun x=>K (some x)) ∧
  (∀ (x:Box) (l:List Box),boxAt (x :: l) 0 = x.2) ∧
  (∀ (x:Box) (l:List Box) (n:Nat),boxAt (x :: l) (n + 1) = boxAt l n) ∧
  (∀ (x:Box) (l:List Box) (y:List Value),lset (x :: l) 0 y = (x.1,y) :: l) ∧
  (∀ (x:Box) (l:List Box) (y:List Value) (n:Nat),lset (x :: l) (n + 1) y = x :: lset l n y) ∧
  (∀ (E:Env) (dr:Bool) (fr:List SV) (L:List Box) (H:List HO) (d:Option Nat) (k:SV → List Box → List HO → Prop) (x:Operand),exec1 E dr fr L H d (.move x) k = k (op1 fr x) L H) ∧
  (∀ (E:Env) (dr:Bool) (fr:List SV) (L:List Box) (H:List HO) (d:Option Nat) (k:SV → List Box → List HO → Prop) (x:Operand),exec1 E dr fr L H d (.assign x) k = k (op1 fr x) L H) ∧
  (∀ (E:Env) (dr:Bool) (fr:List SV) (L:List Box) (H:List HO) (d:Option Nat) (k:SV → List Box → List HO → Prop) (c a b:Operand),exec1 E dr fr L H d (.pick c a b) k = pickS (op1 fr c) (op1 fr a) (op1 fr b) fun s=>k s L H) ∧
  (∀ (E:Env) (dr:Bool) (fr:List SV) (L:List Box) (H:List HO) (d:Option Nat) (k:SV → List Box → List HO → Prop) (T:TypeId) (x:Operand),exec1 E dr fr L H d (.load T x) k = ldS E.w0 L H (ldT E.P T) (op1 fr x) fun s=>k s L H) ∧
  (∀ (E:Env) (dr:Bool) (fr:List SV) (L:List Box) (H:List HO) (d:Option Nat) (k:SV → List Box → List HO → Prop) (x:Operand),exec1 E dr fr L H d (.nilCheck x) k = ncS (op1 fr x) fun s=>k s L H) ∧
  (∀ (E:Env) (dr:Bool) (fr:List SV) (L:List Box) (H:List HO) (d:Option Nat) (k:SV → List Box → List HO → Prop) (o:BinOp) (T U:TypeId) (x y:Operand),exec1 E dr fr L H d (.binOp o T x y U) k = withV (op1 fr x) fun x=>withV (op1 fr y) fun y=>binS E.P o T x y fun s=>k s L H) ∧
  (∀ (E:Env) (dr:Bool) (fr:List SV) (L:List Box) (H:List HO) (d:Option Nat) (k:SV → List Box → List HO → Prop) (o:UnOp) (T:TypeId) (x:Operand),exec1 E dr fr L H d (.unOp o T x) k = unS o (op1 fr x) fun s=>k s L H) ∧
  (∀ (E:Env) (dr:Bool) (fr:List SV) (L:List Box) (H:List HO) (d:Option Nat) (k:SV → List Box → List HO → Prop) (S T:TypeId) (x:Operand),exec1 E dr fr L H d (.convert S T x) k = withV (op1 fr x) fun x=>cv1 (intT E.P S) (intT E.P T) x fun s=>k s L H) ∧
  (∀ (E:Env) (dr:Bool) (fr:List SV) (L:List Box) (H:List HO) (d:Option Nat) (k:SV → List Box → List HO → Prop) (f:Go.Fn) (xs ys:List Operand),exec1 E dr fr L H d (.makeFunc f xs.toArray ys.toArray) k = withVs (xs.map (op1 fr)) fun xs=>withVs (ys.map (op1 fr)) fun ys=>k (.v (.func f xs.toArray ys.toArray)) L H) ∧
  (∀ (E:Env) (dr:Bool) (fr:List SV) (L:List Box) (H:List HO) (d:Option Nat) (k:SV → List Box → List HO → Prop) (T:TypeId) (x:Operand) (f:Nat),exec1 E dr fr L H d (.fieldAddr T x f) k = faS (offT E.P T f) (op1 fr x) fun s=>k s L H) ∧
  (∀ (E:Env) (dr:Bool) (fr:List SV) (L:List Box) (H:List HO) (d:Option Nat) (k:SV → List Box → List HO → Prop) (T:TypeId) (x:Operand) (f:Nat),exec1 E dr fr L H d (.field T x f) k = withV (op1 fr x) fun x=>fldS (fldT E.P T f) x fun s=>k s L H) ∧
  (∀ (E:Env) (dr:Bool) (fr:List SV) (L:List Box) (H:List HO) (d:Option Nat) (k:SV → List Box → List HO → Prop) (T:TypeId) (x i:Operand),exec1 E dr fr L H d (.indexAddr T x i) k = withV (op1 fr i) fun i=>ixS (slT E.P T) (arT E.P T) (op1 fr x) i fun s=>k s L H) ∧
  (∀ (E:Env) (dr:Bool) (fr:List SV) (L:List Box) (H:List HO) (d:Option Nat) (k:SV → List Box → List HO → Prop) (T:TypeId) (x i:Operand),exec1 E dr fr L H d (.index T x i) k = withV (op1 fr x) fun x=>withV (op1 fr i) fun i=>idxS (arT E.P T) x i fun s=>k s L H) ∧
  (∀ (E:Env) (dr:Bool) (fr:List SV) (L:List Box) (H:List HO) (d:Option Nat) (k:SV → List Box → List HO → Prop) (x:Operand) (i:Nat),exec1 E dr fr L H d (.extract x i) k = withV (op1 fr x) fun x=>extS x i fun s=>k s L H) ∧
  (∀ (E:Env) (dr:Bool) (fr:List SV) (L:List Box) (H:List HO) (d:Option Nat) (k:SV → List Box → List HO → Prop) (T:TypeId) (ps:List (Nat × Operand)),exec1 E dr fr L H d (.build T ps.toArray) k = withVs (ps.map fun p=>op1 fr p.2) fun xs=>bldS (placesT E.P T) (zeroT E.P T) ((ps.map (·.1)).zip xs) fun s=>k s L H) ∧
  (∀ (E:Env) (dr:Bool) (fr:List SV) (L:List Box) (H:List HO) (d:Option Nat) (k:SV → List Box → List HO → Prop) (T:TypeId) (x:Operand) (a b c:Option Operand),exec1 E dr fr L H d (.slice T x a b c) k = withV (op1 fr x) fun x=>optV (a.map (op1 fr)) fun a=>optV (b.map (op1 fr)) fun b=>optV (c.map (op1 fr)) fun c=>slQ (slT E.P T) (arT E.P T) x a b c fun s=>k s L H) ∧
  (∀ (E:Env) (dr:Bool) (fr:List SV) (L:List Box) (H:List HO) (d:Option Nat) (k:SV → List Box → List HO → Prop) (T:TypeId),exec1 E dr fr L H d (.alloc T) k = allocS E d T (zeroT E.P T) L H k) ∧
  (∀ (E:Env) (dr:Bool) (fr:List SV) (L:List Box) (H:List HO) (d:Option Nat) (k:SV → List Box → List HO → Prop) (T:TypeId) (x:Operand),exec1 E dr fr L H d (.box T x) k = withV (op1 fr x) fun x=>newBox E d T (vcells x) L H k) ∧
  (∀ (E:Env) (dr:Bool) (fr:List SV) (L:List Box) (H:List HO) (d:Option Nat) (k:SV → List Box → List HO → Prop) (T:TypeId) (a x:Operand),exec1 E dr fr L H d (.store T a x) k = withV (op1 fr x) fun x=>stS L H (szT E.P T) (op1 fr a) x fun L H=>k (.v undef) L H) ∧
  (∀ (E:Env) (dr:Bool) (fr:List SV) (L:List Box) (H:List HO) (d:Option Nat) (k:SV → List Box → List HO → Prop) (T:TypeId) (n:Nat) (ps:List (Nat × Operand)),exec1 E dr fr L H d (.buildSlice T n ps.toArray) k = withVs (ps.map fun p=>op1 fr p.2) fun xs=>bsS (elT E.P T) n ((ps.map (·.1)).zip xs) L H k) ∧
  (∀ (E:Env) (dr:Bool) (fr:List SV) (L:List Box) (H:List HO) (d:Option Nat) (k:SV → List Box → List HO → Prop) (T:TypeId) (n c:Operand),exec1 E dr fr L H d (.makeSlice T n c) k = withV (op1 fr n) fun n=>withV (op1 fr c) fun c=>mkS (elT E.P T) n c L H k) ∧
  (∀ (E:Env) (dr:Bool) (fr:List SV) (L:List Box) (H:List HO) (d:Option Nat) (k:SV → List Box → List HO → Prop) (f:Operand) (as:List Operand) (ts:Array TypeId),exec1 E dr fr L H d (.call ⟨.value f,as.toArray,ts⟩) k = withVs (as.map (op1 fr)) fun args=>invS E dr (op1 fr f) args L H k) ∧
  (∀ (E:Env) (dr:Bool) (fr:List SV) (L:List Box) (H:List HO) (d:Option Nat) (k:SV → List Box → List HO → Prop) (x:Operand) (T:TypeId),exec1 E dr fr L H d (.call ⟨.builtin .len,#[x],#[T]⟩) k = ((slT E.P T).isSome = true ∧ withV (op1 fr x) fun x=>lenS x fun s=>k s L H)) ∧
  (∀ (E:Env) (dr:Bool) (fr:List SV) (L:List Box) (H:List HO) (d:Option Nat) (k:SV → List Box → List HO → Prop) (x:Operand) (T:TypeId),exec1 E dr fr L H d (.call ⟨.builtin .cap,#[x],#[T]⟩) k = ((slT E.P T).isSome = true ∧ withV (op1 fr x) fun x=>capS x fun s=>k s L H)) ∧
  (∀ (E:Env) (dr:Bool) (fr:List SV) (L:List Box) (H:List HO) (d:Option Nat) (k:SV → List Box → List HO → Prop) (x y:Operand) (ts:Array TypeId),exec1 E dr fr L H d (.call ⟨.builtin .max,#[x,y],ts⟩) k = withV (op1 fr x) fun x=>withV (op1 fr y) fun y=>mmS true x y fun s=>k s L H) ∧
  (∀ (E:Env) (dr:Bool) (fr:List SV) (L:List Box) (H:List HO) (d:Option Nat) (k:SV → List Box → List HO → Prop) (x y:Operand) (ts:Array TypeId),exec1 E dr fr L H d (.call ⟨.builtin .min,#[x,y],ts⟩) k = withV (op1 fr x) fun x=>withV (op1 fr y) fun y=>mmS false x y fun s=>k s L H) ∧
  (∀ (E:Env) (dr:Bool) (fr:List SV) (L:List Box) (H:List HO) (d:Option Nat) (k:SV → List Box → List HO → Prop) (s x:Operand) (T T':TypeId),exec1 E dr fr L H d (.call ⟨.builtin .append,#[s,x],#[T,T']⟩) k = (T' = T ∧ withV (op1 fr s) fun s=>withV (op1 fr x) fun x=>app1 (elT E.P T) E.w0 s x H fun v H=>k (.v v) L H)):=
 ⟨@r123,@r124,@r125,@r126,@r127,@r128,@r129,@r130,@r131,@r132,@r133,@r134,@r135,@r136,@r137,@r138,@r139,@r140,@r141,@r142,@r143,@r144,@r145,@r146,@r147,@r148,@r149,@r150,@r151,@r152,@r153,@r154,@r155,@r156,@r157,@r158,@r159,@r160,@r161,@r162,@r163⟩
theorem sx4:
  (∀ (w0:Base) (e:TypeId × Nat × List Value × Nat) (s x:Value) (H:List HO) (K:Value → List HO → Prop),app1 (some e) w0 s x H K = hold (AppOb w0 (some e) s x H K) ⟨0⟩) ∧
  (∀ (E:Env) (dr:Bool) (fr:List SV) (L:List Box) (H:List HO) (d:Option Nat) (k:SV → List Box → List HO → Prop) (a:Operand) (T:TypeId),exec1 E dr fr L H d (.call ⟨.builtin .clear,#[a],#[T]⟩) k = withV (op1 fr a) fun a=>hold (ClrOb E.P E.w0 T a H fun v H=>k (.v v) L H) ⟨0⟩) ∧
  (∀ (E:Env) (dr:Bool) (fr:List SV) (L:List Box) (H:List HO) (d:Option Nat) (k:SV → List Box → List HO → Prop) (a x:Operand) (T T':TypeId),exec1 E dr fr L H d (.call ⟨.builtin .copy,#[a,x],#[T,T']⟩) k = withV (op1 fr a) fun a=>withV (op1 fr x) fun x=>hold (CopyOb E.P E.w0 T T' a x H fun v H=>k (.v v) L H) ⟨0⟩) ∧
  (∀ (E:Env) (dr:Bool) (fr:List SV) (L:List Box) (H:List HO) (d:Option Nat) (k:SV → List Box → List HO → Prop) (T:TypeId),exec1 E dr fr L H d (.makeMap T none) k = ∀ b,k (.v (.map (some b))) L (.obj b (.map #[] 0) :: H)) ∧
  (∀ (E:Env) (dr:Bool) (fr:List SV) (L:List Box) (H:List HO) (d:Option Nat) (k:SV → List Box → List HO → Prop) (T:TypeId) (m q x:Operand),exec1 E dr fr L H d (.insert T m q x) k = withV (op1 fr m) fun m=>withV (op1 fr q) fun q=>withV (op1 fr x) fun x=>hold (InsOb E.P T m q x H fun H=>k (.v undef) L H) ⟨0⟩) ∧
  (∀ (E:Env) (dr:Bool) (fr:List SV) (L:List Box) (H:List HO) (d:Option Nat) (k:SV → List Box → List HO → Prop) (T:TypeId) (m q x:Operand),exec1 E dr fr L H d (.mapUpdate T m q x) k = withV (op1 fr m) fun m=>withV (op1 fr q) fun q=>withV (op1 fr x) fun x=>hold (InsOb E.P T m q x H fun H=>k (.v undef) L H) ⟨0⟩) ∧
  (∀ (E:Env) (dr:Bool) (fr:List SV) (L:List Box) (H:List HO) (d:Option Nat) (k:SV → List Box → List HO → Prop) (T:TypeId) (m q:Operand) (t:Bool),exec1 E dr fr L H d (.lookup T m q t) k = withV (op1 fr m) fun m=>withV (op1 fr q) fun q=>hold (LkOb E.P E.w0 T m q t H fun v=>k (.v v) L H) ⟨0⟩) ∧
  (∀ (K:SV → Prop) (k1 k2 k:IntKind) (n:Int),cv1 (some k1) (some k2) (.int k n) K = (k1 = k ∧ K (.v (.int k2 (k2.wrap n))))) ∧
  (∀ (K:SV → Prop) (a b:SV),pickS (.b true) a b K = K a) ∧
  (∀ (K:SV → Prop) (a b:SV),pickS (.b false) a b K = K b) ∧
  (∀ (K:SV → Prop) (t p q:Bool),pickS (.v (.bool t)) (.v (.bool p)) (.v (.bool q)) K = K (.v (.bool (bif t then p else q)))) ∧
  (∀ (K:SV → Prop) (t p q:Bool),pickS (.v (.bool t)) (.v (.bool p)) (.b q) K = K (.v (.bool (bif t then p else q)))) ∧
  (∀ (K:SV → Prop) (t p q:Bool),pickS (.v (.bool t)) (.b p) (.v (.bool q)) K = K (.v (.bool (bif t then p else q)))) ∧
  (∀ (K:SV → Prop) (t p q:Bool),pickS (.v (.bool t)) (.b p) (.b q) K = K (.v (.bool (bif t then p else q)))) ∧
  (∀ (K:SV → Prop) (j o:Nat),ncS (.p j o) K = K (.p j o)) ∧
  (∀ (K:SV → Prop) (a:Addr),ncS (.v (.pointer (some a))) K = K (.v (.pointer (some a)))) ∧
  (∀ (K:SV → Prop) (f:Nat) (x y:Array Value),ncS (.v (.func (.func f) x y)) K = K (.v (.func (.func f) x y))) ∧
  (∀ (K:SV → Prop) (f:Nat) (x y:Array Value),ncS (.v (.func (.yield f) x y)) K = K (.v (.func (.yield f) x y))) ∧
  (∀ (w0:Base) (L:List Box) (H:List HO) (k:Option Nat) (K:SV → Prop) (j o:Nat),ldS w0 L H (some k) (.p j o) K = (j < L.length ∧ ldBox (boxAt L j) o k K)) ∧
  (∀ (w0:Base) (L:List Box) (H:List HO) (k:Option Nat) (K:SV → Prop) (a:Addr),ldS w0 L H (some k) (.v (.pointer (some a))) K = hold (LdOb w0 H a k K) ⟨0⟩) ∧
  (∀ (K:SV → Prop) (cs:List Value) (o:Nat),ldBox cs o none K = ldb1 (cs[o]?) K) ∧
  (∀ (K:SV → Prop) (v:Value),ldb1 (some v) K = K (.v v)) ∧
  (∀ (K:SV → Prop) (cs:List Value) (o n:Nat),ldBox cs o (some n) K = (o + n ≤ cs.length ∧ K (.v (.agg ((cs.drop o).take n).toArray)))) ∧
  (∀ (P:Program) (o:BinOp) (T:TypeId) (k k':IntKind) (x y:Int) (K:SV → Prop),binS P o T (.int k x) (.int k' y) K = (sameK o k k' ∧ binI o k x y K)) ∧
  (∀ (o:BinOp) (k:IntKind),sameK o k k = True) ∧
  (∀ (k k':IntKind),sameK .shl k k' = True) ∧
  (∀ (k k':IntKind),sameK .shr k k' = True) ∧
  (∀ (k:IntKind) (x y:Int) (K:SV → Prop),binI .add k x y K = K (.v (.int k (k.wrap (x + y))))) ∧
  (∀ (k:IntKind) (x y:Int) (K:SV → Prop),binI .sub k x y K = K (.v (.int k (k.wrap (x - y))))) ∧
  (∀ (k:IntKind) (x y:Int) (K:SV → Prop),binI .mul k x y K = K (.v (.int k (k.wrap (x * y))))) ∧
  (∀ (k:IntKind) (x y:Int) (K:SV → Prop),binI .quo k x y K = (y ≠ 0 ∧ K (.v (.int k (k.wrap (x.tdiv y)))))) ∧
  (∀ (k:IntKind) (x y:Int) (K:SV → Prop),binI .rem k x y K = (y ≠ 0 ∧ K (.v (.int k (x.tmod y))))) ∧
  (∀ (k:IntKind) (x y:Int) (K:SV → Prop),binI .shl k x y K = (0 ≤ y ∧ K (.v (.int k (k.wrap (x * 2 ^ (min y.toNat k.bits))))))) ∧
  (∀ (k:IntKind) (x y:Int) (K:SV → Prop),binI .shr k x y K = (0 ≤ y ∧ K (.v (.int k (x.fdiv (2 ^ (min y.toNat k.bits))))))) ∧
  (∀ (k:IntKind) (x y:Int) (K:SV → Prop),binI .and k x y K = K (.v (.int k (bitS .and k x y)))) ∧
  (∀ (k:IntKind) (x y:Int) (K:SV → Prop),binI .or k x y K = K (.v (.int k (bitS .or k x y)))) ∧
  (∀ (k:IntKind) (x y:Int) (K:SV → Prop),binI .xor k x y K = K (.v (.int k (bitS .xor k x y)))) ∧
  (∀ (k:IntKind) (x y:Int) (K:SV → Prop),binI .andNot k x y K = K (.v (.int k (bitS .andNot k x y)))) ∧
  (∀ (k:IntKind) (x y:Int) (K:SV → Prop),binI .eql k x y K = K (.v (.bool (x == y)))) ∧
  (∀ (k:IntKind) (x y:Int) (K:SV → Prop),binI .neq k x y K = K (.v (.bool (x != y)))) ∧
  (∀ (k:IntKind) (x y:Int) (K:SV → Prop),binI .lss k x y K = K (.v (.bool (decide (x < y))))) ∧
  (∀ (k:IntKind) (x y:Int) (K:SV → Prop),binI .leq k x y K = K (.v (.bool (decide (x ≤ y))))):=
 ⟨@r164,@r165,@r166,@r167,@r168,@r168u,@r169,@r170,@r171,@r172,@r173,@r174,@r175,@r176,@r177,@r178,@r179,@r180,@r181,@r182,@r183,@r184,@r185,@r186,@r187,@r188,@r189,@r190,@r191,@r192,@r193,@r194,@r195,@r196,@r197,@r198,@r199,@r200,@r201,@r202,@r203,@r204⟩
theorem sx5:
  (∀ (k:IntKind) (x y:Int) (K:SV → Prop),binI .gtr k x y K = K (.v (.bool (decide (x > y))))) ∧
  (∀ (k:IntKind) (x y:Int) (K:SV → Prop),binI .geq k x y K = K (.v (.bool (decide (x ≥ y))))) ∧
  (∀ (P:Program) (T:TypeId) (a b:Bool) (K:SV → Prop),binS P .eql T (.bool a) (.bool b) K = (kdT P T = some 1 ∧ K (.v (.bool (a == b))))) ∧
  (∀ (P:Program) (T:TypeId) (a b:Bool) (K:SV → Prop),binS P .neq T (.bool a) (.bool b) K = (kdT P T = some 1 ∧ K (.v (.bool (!(a == b)))))) ∧
  (∀ (P:Program) (T:TypeId) (a:Option Addr) (n m n' m':Nat) (K:SV → Prop),binS P .eql T (.slice a n m) (.slice none n' m') K = (kdT P T = some 2 ∧ K (.v (.bool a.isNone)))) ∧
  (∀ (P:Program) (T:TypeId) (a:Option Addr) (n m n' m':Nat) (K:SV → Prop),binS P .neq T (.slice a n m) (.slice none n' m') K = (kdT P T = some 2 ∧ K (.v (.bool (!a.isNone))))) ∧
  (∀ (P:Program) (T:TypeId) (xs ys:Array Value) (K:SV → Prop),binS P .eql T (.agg xs) (.agg ys) K = ∃ r,EqAgg P T xs.toList ys.toList r ∧ K (.v (.bool r))) ∧
  (∀ (P:Program) (T:TypeId) (xs ys:Array Value) (K:SV → Prop),binS P .neq T (.agg xs) (.agg ys) K = ∃ r,EqAgg P T xs.toList ys.toList r ∧ K (.v (.bool (!r)))) ∧
  (∀ (K:SV → Prop) (t:Bool),unS .not (.b t) K = K (.b !t)) ∧
  (∀ (K:SV → Prop) (t:Bool),unS .not (.v (.bool t)) K = K (.v (.bool !t))) ∧
  (∀ (K:SV → Prop) (k:IntKind) (n:Int),unS .neg (.v (.int k n)) K = K (.v (.int k (k.wrap (0 - n))))) ∧
  (∀ (K:SV → Prop) (n j o:Nat),faS (some n) (.p j o) K = K (.p j (o + n))) ∧
  (∀ (K:SV → Prop) (n:Nat) (a:Addr),faS (some n) (.v (.pointer (some a))) K = K (.v (.pointer (some (a.add n))))) ∧
  (∀ (K:SV → Prop) (o:Nat) (k:Option Nat) (cs:Array Value),fldS (some (o,k)) (.agg cs) K = partS cs.toList o k K) ∧
  (∀ (K:SV → Prop) (cs:List Value) (o:Nat),partS cs o none K = ldb1 (cs[o]?) K) ∧
  (∀ (K:SV → Prop) (cs:List Value) (o n:Nat),partS cs o (some n) K = K (.v (.agg ((cs.drop o).take n).toArray))) ∧
  (∀ (ki:IntKind) (i:Int) (K:SV → Prop) (e sz len cap:Nat) (a:Option Addr) (ar:Option (Nat × Nat × Option Nat)),ixS (some (e,sz)) ar (.v (.slice a len cap)) (.int ki i) K = (0 ≤ i ∧ i < len ∧ ∃ ad,a = some ad ∧ K (.v (.pointer (some (ad.add (i.toNat * sz))))))) ∧
  (∀ (ki:IntKind) (i:Int) (K:SV → Prop) (n sz j o:Nat) (k:Option Nat),ixS none (some (n,sz,k)) (.p j o) (.int ki i) K = (0 ≤ i ∧ i < n ∧ K (.p j (o + i.toNat * sz)))) ∧
  (∀ (ki:IntKind) (i:Int) (K:SV → Prop) (n sz:Nat) (k:Option Nat) (a:Addr),ixS none (some (n,sz,k)) (.v (.pointer (some a))) (.int ki i) K = (0 ≤ i ∧ i < n ∧ K (.v (.pointer (some (a.add (i.toNat * sz))))))) ∧
  (∀ (ki:IntKind) (i:Int) (K:SV → Prop) (n sz:Nat) (k:Option Nat) (cs:Array Value),idxS (some (n,sz,k)) (.agg cs) (.int ki i) K = (0 ≤ i ∧ i < n ∧ partS cs.toList (i.toNat * sz) k K)) ∧
  (∀ (K:SV → Prop) (vs:Array Value) (i:Nat),extS (.tuple vs) i K = ldb1 (vs.toList[i]?) K) ∧
  (∀ (d y:Nat) (K:Nat → Prop),bndS none d y K = K d) ∧
  (∀ (d y:Nat) (K:Nat → Prop) (k:IntKind) (i:Int),bndS (some (.int k i)) d y K = (0 ≤ i ∧ i ≤ y ∧ K i.toNat)) ∧
  (∀ (K:SV → Prop) (e sz len cap:Nat) (a:Option Addr) (lo hi mx:Option Value),slS (some (e,sz)) (.slice a len cap) lo hi mx K = bndS mx cap cap fun m=>(mx.isSome = true → hi.isSome = true) ∧ bndS hi len m fun h=>bndS lo 0 h fun l=>K (.v (.slice (if m = l then a else a.map (·.add (l * sz))) (h - l) (m - l)))) ∧
  (∀ (K:SV → Prop) (q:Option (TypeId × Nat)) (ar:Option (Nat × Nat × Option Nat)) (len cap:Nat) (a:Option Addr) (lo hi mx:Option Value),slQ q ar (.slice a len cap) lo hi mx K = slS q (.slice a len cap) lo hi mx K) ∧
  (∀ (K:SV → Prop) (q:Option (TypeId × Nat)) (n sz:Nat) (el:Option Nat) (a:Addr) (lo hi mx:Option Value),slQ q (some (n,sz,el)) (.pointer (some a)) lo hi mx K = (lo = none ∧ hi = none ∧ mx = none ∧ K (.v (.slice (some (if n = 0 then a else a.add 0)) n n)))) ∧
  (∀ (K:SV → Prop) (a:Option Addr) (n m:Nat),lenS (.slice a n m) K = K (.v (.int .i64 n))) ∧
  (∀ (K:SV → Prop) (a:Option Addr) (n m:Nat),capS (.slice a n m) K = K (.v (.int .i64 m))) ∧
  (∀ (K:SV → Prop) (k k':IntKind) (a b:Int),mmS true (.int k a) (.int k' b) K = K (.v (.int k (max a b)))) ∧
  (∀ (K:SV → Prop) (k k':IntKind) (a b:Int),mmS false (.int k a) (.int k' b) K = K (.v (.int k (min a b)))) ∧
  (∀ (pl:List (Nat × Nat)) (z:List Value) (ps:List (Nat × Value)) (K:SV → Prop),bldS (some pl) (some z) ps K = bld1 (fillS pl z ps) K) ∧
  (∀ (K:SV → Prop) (cs:List Value),bld1 (some cs) K = K (.v (.agg cs.toArray))) ∧
  (∀ (pl:List (Nat × Nat)) (cs:List Value),fillS pl cs [] = some cs) ∧
  (∀ (pl:List (Nat × Nat)) (cs:List Value) (i:Nat) (v:Value) (r:List (Nat × Value)),fillS pl cs ((i,v) :: r) = fil1 (pl[i]?) pl cs (vcells v) r) ∧
  (∀ (o n:Nat) (pl:List (Nat × Nat)) (cs vs:List Value) (r:List (Nat × Value)),fil1 (some (o,n)) pl cs vs r = if vs.length = n ∧ o + n ≤ cs.length then fillS pl (cs.take o ++ vs ++ cs.drop (o + n)) r else none) ∧
  (∀ (k:IntKind) (n:Int),vcells (.int k n) = [.int k n]) ∧
  (∀ (k:IntKind) (n:Int),Value.oneCell' (.int k n) = true) ∧
  (∀ (t:Bool),vcells (.bool t) = [.bool t]) ∧
  (∀ (t:Bool),Value.oneCell' (.bool t) = true) ∧
  (∀ (a:Option Addr) (n m:Nat),vcells (.slice a n m) = [.slice a n m]) ∧
  (∀ (a:Option Addr) (n m:Nat),Value.oneCell' (.slice a n m) = true):=
 ⟨@r205,@r206,@r207,@r208,@r209,@r210,@r211,@r212,@r213,@r214,@r215,@r216,@r217,@r218,@r219,@r220,@r221,@r222,@r223,@r224,@r225,@r226,@r227,@r228,@r229,@r230,@r231,@r232,@r233,@r234,@r235,@r236,@r237,@r238,@r239,@r240,@r241,@r242,@r243,@r244,@r245⟩
theorem sx6:
  (∀ (s:ByteArray),vcells (.string s) = [.string s]) ∧
  (∀ (s:ByteArray),Value.oneCell' (.string s) = true) ∧
  (∀ (a:Option Addr),vcells (.pointer a) = [.pointer a]) ∧
  (∀ (a:Option Addr),Value.oneCell' (.pointer a) = true) ∧
  (∀ (a:Option Nat),vcells (.map a) = [.map a]) ∧
  (∀ (a:Option Nat),Value.oneCell' (.map a) = true) ∧
  (∀ (f:Go.Fn) (a b:Array Value),vcells (.func f a b) = [.func f a b]) ∧
  (∀ (f:Go.Fn) (a b:Array Value),Value.oneCell' (.func f a b) = true) ∧
  (vcells .nilFunc = [.nilFunc]) ∧
  (Value.oneCell' .nilFunc = true) ∧
  (∀ (l:List Value),vcells (.agg l.toArray) = l) ∧
  (∀ (E:Env) (T:TypeId) (cs:List Value) (L:List Box) (H:List HO) (k:SV → List Box → List HO → Prop) (d:Nat),newBox E (some d) T cs L H k = nb1 (inRe d E.re) T cs L H k) ∧
  (∀ (d:Nat),inRe d [] = false) ∧
  (∀ (d e:Nat) (l:List Nat),inRe d (e :: l) = bif d == e then true else inRe d l) ∧
  (∀ (T:TypeId) (cs:List Value) (L:List Box) (H:List HO) (k:SV → List Box → List HO → Prop),nb1 true T cs L H k = ∀ b,k (.v (.pointer (some ⟨b,0,none⟩))) L (.cells b T cs :: H)) ∧
  (∀ (T:TypeId) (cs:List Value) (L:List Box) (H:List HO) (k:SV → List Box → List HO → Prop),nb1 false T cs L H k = k (.p L.length 0) (L ++ [(T,cs)]) H) ∧
  (∀ (E:Env) (T:TypeId) (d:Option Nat) (cs:List Value) (L:List Box) (H:List HO) (k:SV → List Box → List HO → Prop),allocS E d T (some cs) L H k = newBox E d T cs L H k) ∧
  (∀ (L:List Box) (H:List HO) (n:Option Nat) (x:Value) (K:List Box → List HO → Prop) (j o:Nat),stS L H n (.p j o) x K = (n = some (vcells x).length ∧ (vcells x).all (·.oneCell') = true ∧ j < L.length ∧ o + (vcells x).length ≤ (boxAt L j).length ∧ K (lset L j ((boxAt L j).take o ++ vcells x ++ (boxAt L j).drop (o + (vcells x).length))) H)) ∧
  (∀ (L:List Box) (H:List HO) (n:Option Nat) (x:Value) (K:List Box → List HO → Prop) (a:Addr),stS L H n (.v (.pointer (some a))) x K = (n = some (vcells x).length ∧ (vcells x).all (·.oneCell') = true ∧ wr1 (vcells x) H a fun H=>K L H)) ∧
  (∀ (x:Value) (xs:List Value) (H:List HO) (a:Addr) (K:List HO → Prop),wr1 (x :: xs) H a K = hold (WrOb H a (x :: xs) K) ⟨0⟩) ∧
  (∀ (e sz bytes:Nat) (z:List Value) (ki kj:IntKind) (n c:Int) (L:List Box) (H:List HO) (k:SV → List Box → List HO → Prop),mkS (some (e,sz,z,bytes)) (.int ki n) (.int kj c) L H k = (0 ≤ n ∧ n ≤ c ∧ c * bytes ≤ 140737488355328 ∧ ∀ b,k (.v (.slice (some ⟨b,0,none⟩) n.toNat c.toNat)) L (.row (.slice (some ⟨b,0,none⟩) n.toNat c.toNat) e sz (zerosL n.toNat z) :: H))) ∧
  (∀ (e sz bytes:Nat) (z:List Value) (n:Nat) (ps:List (Nat × Value)) (L:List Box) (H:List HO) (k:SV → List Box → List HO → Prop),bsS (some (e,sz,z,bytes)) n ps L H k = (n * sz ≤ 16777216 ∧ bs1 (fillS (slotsL n 0 sz) (zersL n z) ps) fun cs=>∀ b,k (.v (.slice (some ⟨b,0,none⟩) n n)) L (.row (.slice (some ⟨b,0,none⟩) n n) e sz cs :: H))) ∧
  (∀ (i sz:Nat),slotsL 0 i sz = []) ∧
  (∀ (n i sz:Nat),slotsL (n + 1) i sz = (i * sz,sz) :: slotsL n (i + 1) sz) ∧
  (∀ (z:List Value),zersL 0 z = []) ∧
  (∀ (n:Nat) (z:List Value),zersL (n + 1) z = z ++ zersL n z) ∧
  (∀ (cs:List Value) (K:List Value → Prop),bs1 (some cs) K = K cs) ∧
  (∀ (E:Env) (dr:Bool) (args:List Value) (L:List Box) (H:List HO) (k:SV → List Box → List HO → Prop) (g:Nat) (first cap:List Value),invS E dr (.v (.func (.func g) first.toArray cap.toArray)) args L H k = (CallT E.P g ∧ call1 (E.det g (first ++ args ++ cap)) E dr g (first ++ args ++ cap) L H k)) ∧
  (∀ (E:Env) (dr:Bool) (args:List Value) (L:List Box) (H:List HO) (k:SV → List Box → List HO → Prop) (l:Nat) (first cap:List Value),invS E dr (.v (.func (.yield l) first.toArray cap.toArray)) args L H k = yld1 (first ++ args) E dr l L H k) ∧
  (∀ (E:Env) (dr:Bool) (L:List Box) (H:List HO) (k:SV → List Box → List HO → Prop) (l:Nat) (a b:Value),yld1 [a,b] E dr l L H k = hold (CallOb E.P E.w0 dr (.yield l) [a,b] H fun v H=>k (.v v) L H) ⟨0⟩) ∧
  (∀ (E:Env) (dr:Bool) (L:List Box) (H:List HO) (k:SV → List Box → List HO → Prop) (l:Nat) (a:Value),yld1 [a] E dr l L H k = hold (CallOb E.P E.w0 dr (.yield l) [a] H fun v H=>k (.v v) L H) ⟨0⟩) ∧
  (∀ (E:Env) (dr:Bool) (args:List Value) (L:List Box) (H:List HO) (k:SV → List Box → List HO → Prop) (g:Nat) (v:Value),call1 (some v) E dr g args L H k = k (.v v) L H) ∧
  (∀ (E:Env) (dr:Bool) (args:List Value) (L:List Box) (H:List HO) (k:SV → List Box → List HO → Prop) (g:Nat),call1 none E dr g args L H k = hold (CallOb E.P E.w0 dr (.fn g) args H fun v H=>k (.v v) L H) ⟨0⟩) ∧
  (∀ (E:Env) (fr:List SV) (L:List Box) (H:List HO) (K:List Value → Prop),resK E [] fr L H K = K []) ∧
  (∀ (E:Env) (rs:List ResultVar) (fr:List SV) (L:List Box) (H:List HO) (K:List Value → Prop) (t:Nat),resK E (.tmp t :: rs) fr L H K = withV (fget fr t) fun x=>resK E rs fr L H fun xs=>K (x :: xs)) ∧
  (∀ (E:Env) (rs:List ResultVar) (fr:List SV) (L:List Box) (H:List HO) (K:List Value → Prop) (a T:Nat),resK E (.cell a T :: rs) fr L H K = ldS E.w0 L H (ldT E.P T) (fget fr a) fun s=>withV s fun x=>resK E rs fr L H fun xs=>K (x :: xs)) ∧
  (∀ (x:Value),tupV [x] = x) ∧
  (tupV [] = .tuple #[]) ∧
  (∀ (x y:Value),tupV [x,y] = .tuple #[x,y]) ∧
  (∀ (x y z:Value),tupV [x,y,z] = .tuple #[x,y,z]) ∧
  (∀ (args:List Value) (n:Nat),initF args n = args.map SV.v ++ List.replicate (n - args.length) (.v undef)):=
 ⟨@r246,@r247,@r248,@r249,@r250,@r251,@r252,@r253,@r254,@r255,@r256,@r257,@r258,@r259,@r260,@r261,@r262,@r263,@r264,@r265,@r266,@r267,@r268,@r269,@r270,@r271,@r272,@r273,@r274,@r275,@r276,@r277,@r278,@r279,@r280,@r281,@r282,@r283,@r284,@r285,@r286⟩
theorem ev3_hold:(∀ (p:List SV → List Box → List HO → Prop) (t:TagF p) (fr:List SV) (L:List Box) (H:List HO),ev3 p t fr L H = hold (p fr L H) ⟨0⟩) ∧ (∀ (p:List SV → List Box → List HO → Prop) (t:TagF p) (fr:List SV) (L:List Box) (H:List HO),ev2 p t fr L H = p fr L H):=⟨fun _ _ _ _ _=>rfl,fun _ _ _ _ _=>rfl⟩
end Go.SX

