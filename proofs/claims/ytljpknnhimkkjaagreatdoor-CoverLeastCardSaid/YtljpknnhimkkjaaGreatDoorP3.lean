/- Parts of a proof: the symbolic walk and what it shows of single functions. -/
import Derived.Test.YtljpknnhimkkjaaGreatDoorP2
import Derived.Test.YtljpknnhimkkjaaGreatDoorC5
set_option linter.all false
namespace Go.Proofs.YtljpknnhimkkjaaGreatDoor
open Go.RowKit Go.SX
set_option maxRecDepth 10000
set_option maxHeartbeats 0
set_option linter.unusedSimpArgs false
set_option linter.unusedVariables false
noncomputable def rmpE (c:Cht) (b:Cls) (r:Rmp):Int:=if c.okB then (if clsB b then (if rampB c r then 0 else 11) else 50) else 10
theorem isCellB_eq {c:Cht} (hok:c.ok) (n:Int):isCellB c.wide c.high n = inB n 0 ((c.depth.length:Int) - 1):=by
 obtain ⟨_,_,h1,h2,h3⟩:=hok.dims
 have h4:(c.depth.length:Int) = c.wide * c.high:=hok.2.2.1
 have h5:c.depth.length ≤ 144:=by rw [h3]; exact Nat.le_trans (Nat.mul_le_mul h1.2 h2.2) (by decide)
 unfold isCellB
 rw [← h4,show wr (c.depth.length:Int) = (c.depth.length:Int) from wrap_id (by omega),show wr ((c.depth.length:Int) - 1) = (c.depth.length:Int) - 1 from wrap_id (by omega)]
theorem rramp_fn (w:World) (hw:Ways w) (v:Value) (c:Cht) (hc:ChOk w v c) (hsm:c.small) (b:Cls) (r:Rmp):
  SX.Fn Tryz.prog 52 [v,clv b,rmv r] w (fun _=>False) fun q N=>q = I (rmpE c b r):=by
 have hc0:=hc
 have hD:=detO_ok (X:=fun _=>False) hw hc (fun _ _=>id)
 have hck:detO v c 49 [v] = some (I (if c.okB then 0 else 10)):=(detM_check (v:=v) hsm).2
 obtain ⟨sD,sT,sS,rfl,hsD,hsT,hsS⟩:=hc
 have dq:=detO_eq (.agg #[I c.wide,I c.high,sD,sT,sS]) c
 have dn:(∀ xs,detO (.agg #[I c.wide,I c.high,sD,sT,sS]) c 105 xs = none):=fun _=>rfl
 have hir:=fun (hok:c.ok) (H:List HO) w' (hp:Hp ⟨w,fun _=>False⟩ H w')=>isRamp_fn w' (hw.hp hp) _ c r (hc0.hp hp) hok
 unfold clv rmv rmpE
 unfold rmv at hir
 refine walk [] [] hD Tryz.func52 rfl Tryz.ntmps52 res52 (by kernel_rfl) no_facts ?_
 cases hok:c.okB with
 | false=>
  rw [hok] at hck
  simp (config := { maxSteps := 4000000 }) only [↓sxw,sxw,tf52,sxu,sxl,sxm,simprocAttr,hck]
 | true=>
 rw [hok] at hck
 have hok':=(okB_iff c).1 hok
 cases hcl:clsB b with
 | false=>
  have hcl':clsB ⟨b.draught,b.seas,b.move,b.idle,b.reserve,b.seats,b.moment⟩ = false:=hcl
  simp (config := { maxSteps := 4000000 }) only [↓sxw,sxw,tf52,sxu,sxl,sxm,simprocAttr,hck,dq,hcl']
 | true=>
 have hcl':clsB ⟨b.draught,b.seas,b.move,b.idle,b.reserve,b.seats,b.moment⟩ = true:=hcl
 simp (config := { maxSteps := 4000000 }) only [↓sxw,sxw,tf52,sxu,sxl,sxm,simprocAttr,hck,dq,hcl',dn]
 refine CallOb.pureH (fun w' hp=>hir hok' _ w' hp) ?_
 rintro q N rfl
 cases hr:rampB c r with
 | false=>
  refine ⟨?_⟩
  simp (config := { maxSteps := 4000000 }) only [↓sxw,sxw,tf52,sxu,sxl,sxm,simprocAttr]
 | true=>
  refine ⟨?_⟩
  simp (config := { maxSteps := 4000000 }) only [↓sxw,sxw,tf52,sxu,sxl,sxm,simprocAttr]
end Go.Proofs.YtljpknnhimkkjaaGreatDoor

namespace Go.Proofs.YtljpknnhimkkjaaGreatDoor
open Go.RowKit Go.SX
set_option maxRecDepth 10000
set_option maxHeartbeats 0
set_option linter.unusedSimpArgs false
set_option linter.unusedVariables false
def ReachP (c:Cht) (b:Cls) (r:Rmp) (t:Int) (q:Value) (N:List HO):Prop:=(staE c b r t 0 ≠ 0 ∧ q = .tuple #[.slice none 0 0,I (staE c b r t 0)]) ∨ (staE c b r t 0 = 0 ∧ ∃ x,q = .tuple #[x,I 0] ∧ Got x 3 1 i1 (reachL c b r t.toNat) N)
theorem lreach_fn (w:World) (hw:Ways w) (v:Value) (c:Cht) (hc:ChOk w v c) (hsm:c.small) (b:Cls) (r:Rmp) (t:Int):
  SX.Fn Tryz.prog 23 [v,clv b,rmv r,I t] w (fun _=>False) (ReachP c b r t):=by
 have hc0:=hc
 have hop:=fun (H:List HO) w' (hp:Hp ⟨w,fun _=>False⟩ H w')=>open5_fn w' (hw.hp hp) v c (hc0.hp hp) hsm b r t 0
 obtain ⟨sD,sT,sS,rfl,hsD,hsT,hsS⟩:=hc
 have dn:∀ (g:Nat) (xs:List Value),det0 g xs = none:=fun _ _=>rfl
 unfold ReachP
 unfold clv rmv
 unfold clv rmv at hop
 refine walk [] [] (det0_ok _ _) Tryz.func23 rfl Tryz.ntmps23 res23 (by kernel_rfl) no_facts ?_
 simp (config := { maxSteps := 4000000 }) only [↓sxw,sxw,tf23,sxu,sxl,sxm,simprocAttr,dn]
 refine CallOb.pureH (fun w' hp=>hop _ w' hp) ?_
 rintro q N hO
 by_cases hE:staE c b r t 0 = 0
 case neg=>
  rcases hO with ⟨_,rfl⟩ | ⟨h,_⟩
  ·have e1:(staE c b r t 0 = 0) = False:=eq_false hE
   refine ⟨?_⟩
   simp (config := { maxSteps := 4000000 }) only [↓sxw,sxw,tf23,sxu,sxl,sxm,simprocAttr,e1]
   exact .inl trivial
  ·exact absurd h hE
 rcases hO with ⟨h,_⟩ | ⟨_,bs,rfl,hN⟩
 ·exact absurd hE h
 have hz:=staE_zero hE
 have hrc:=ramp_cell hz.2.2.1
 have hk4:=hz.2.2.2.1
 obtain ⟨T,rfl⟩:∃ T:Nat,t = T:=⟨t.toNat,by omega⟩
 have hrea:=fun (H:List HO) w' (hp:Hp ⟨w,fun _=>False⟩ H w') (hm:∀ h ∈ N,h ∈ H)=>reach5_fn w' bs c hz.1 b r r.cell.toNat (by omega) (by omega) (hN.ok hm hc0 hp) T (by omega)
 refine ⟨?_⟩
 simp (config := { maxSteps := 4000000 }) only [↓sxw,sxw,tf23,sxu,sxl,sxm,simprocAttr,dn]
 refine CallOb.pureH (fun w' hp=>hrea _ w' hp (by simp +contextual)) ?_
 rintro q N2 hG
 refine ⟨?_⟩
 simp (config := { maxSteps := 4000000 }) only [↓sxw,sxw,tf23,sxu,sxl,sxm,simprocAttr]
 exact .inr ⟨hE,_,rfl,hG.mono (by simp +contextual)⟩
theorem Fn.monoOk {P:Program} {f:Nat} {args:List Value} {w:World} {X:Nat → Prop} {Post Post':Value → List HO → Prop} (h:SX.Fn P f args w X Post) (hp:∀ v N w',(∀ h ∈ N,HO.ok w' h) → Post v N → Post' v N):SX.Fn P f args w X Post':=
 Calls.mono h fun _e w' ⟨v,N,a,b,c,d,e',p⟩=>⟨v,N,a,b,c,d,e',hp v N w' c p⟩
def OpenQ (c:Cht) (b:Cls) (r:Rmp) (q:Value) (N:List HO):Prop:=(staE c b r 0 0 ≠ 0 ∧ q = .tuple #[.pointer none,I (staE c b r 0 0)]) ∨ (staE c b r 0 0 = 0 ∧ ∃ bs ar cr cs,q = .tuple #[.pointer (some ⟨bs,0,none⟩),I 0] ∧ cs[13]? = some (.slice ar c.tide.length cr) ∧ HO.cells bs 198 cs ∈ N ∧ HO.row (.slice ar c.tide.length cr) 4 1 (bools (rdyL c b r)) ∈ N ∧ (ar = none → bools (rdyL c b r) = []))
theorem openQ_fn (w:World) (hw:Ways w) (v:Value) (c:Cht) (hc:ChOk w v c) (hsm:c.small) (b:Cls) (r:Rmp):
  SX.Fn Tryz.prog 74 [v,clv b,rmv r,I 0,I 0] w (fun _=>False) (OpenQ c b r):=by
 refine Fn.monoOk (open5_fn w hw v c hc hsm b r 0 0) fun q N w' hok h=>?_
 rcases h with h | ⟨h0,bs,rfl,sD,sT,sS,vr,vc,vn,_,h1,h2,_,_⟩
 ·exact .inl h
 ·have hs:Sl w' vr 1 (bools (rdyL c b r)):=RowOk.sl (E:=4) (hok _ h2)
  obtain ⟨a,n,cp,rfl⟩:=hs.shape
  have hn:=hs.le b1_len (by omega)
  have hrl:(rdyL c b r).length = c.tide.length:=by unfold rdyL; rw [List.length_map,List.length_range]
  rw [hrl] at hn
  subst hn
  refine .inr ⟨h0,bs,a,cp,_,rfl,rfl,h1,h2,fun ha=>?_⟩
  obtain ⟨a',len',cap',he,_,hx⟩:=hs
  injection he with he1
  subst he1
  cases hb:bools (rdyL c b r) with
  | nil=>rfl
  | cons y ys=>
   obtain ⟨ad,h,_⟩:=hx 0 y (by rw [hb]; rfl)
   rw [ha] at h
   cases h
def OpensP (c:Cht) (b:Cls) (r:Rmp) (q:Value) (N:List HO):Prop:=(staE c b r 0 0 ≠ 0 ∧ q = .tuple #[.slice none 0 0,I (staE c b r 0 0)]) ∨ (staE c b r 0 0 = 0 ∧ ∃ x,q = .tuple #[x,I 0] ∧ Got x 49 2 spc (winL (rdyB c b r) c.tide.length) N)
theorem lopen_fn (w:World) (hw:Ways w) (v:Value) (c:Cht) (hc:ChOk w v c) (hsm:c.small) (b:Cls) (r:Rmp):
  SX.Fn Tryz.prog 166 [v,clv b,rmv r] w (fun _=>False) (OpensP c b r):=by
 have hc0:=hc
 have hop:=fun (H:List HO) w' (hp:Hp ⟨w,fun _=>False⟩ H w')=>openQ_fn w' (hw.hp hp) v c (hc0.hp hp) hsm b r
 obtain ⟨sD,sT,sS,rfl,hsD,hsT,hsS⟩:=hc
 have dn:∀ (g:Nat) (xs:List Value),det0 g xs = none:=fun _ _=>rfl
 have htl:c.tide.length ≤ 100:=hsm.2.1
 unfold OpensP
 unfold clv rmv
 unfold clv rmv at hop
 refine walk [] [] (det0_ok _ _) Tryz.func166 rfl Tryz.ntmps166 res166 (by kernel_rfl) no_facts ?_
 simp (config := { maxSteps := 4000000 }) only [↓sxw,sxw,tf166,sxu,sxl,sxm,simprocAttr,dn]
 refine CallOb.pureH (fun w' hp=>hop _ w' hp) ?_
 rintro q N hO
 by_cases hE:staE c b r 0 0 = 0
 case neg=>
  rcases hO with ⟨_,rfl⟩ | ⟨h,_⟩
  ·have e1:(staE c b r 0 0 = 0) = False:=eq_false hE
   refine ⟨?_⟩
   simp (config := { maxSteps := 4000000 }) only [↓sxw,sxw,tf166,sxu,sxl,sxm,simprocAttr,e1]
   exact .inl trivial
  ·exact absurd h hE
 rcases hO with ⟨h,_⟩ | ⟨_,bs,ar,cr,cs,rfl,hcs,hN1,hN2,har⟩
 ·exact absurd hE h
 have hrl:(rdyL c b r).length = c.tide.length:=by unfold rdyL; rw [List.length_map,List.length_range]
 have hrt:∀ i,i < c.tide.length → (rdyL c b r)[i]? = some (rdyB c b r i):=fun i hi=>by unfold rdyL; rw [List.getElem?_map,List.getElem?_range hi]; rfl
 refine ⟨?_⟩
 simp (config := { maxSteps := 4000000 }) only [↓sxw,sxw,tf166,sxu,sxl,sxm,simprocAttr]
 refine ld_cella (T:=198) (cs:=cs) (by simp [hN1]) hcs ?_
 obtain ⟨p,hp⟩:∃ p,rdyB c b r = p:=⟨_,rfl⟩
 rw [hp] at hrt
 obtain ⟨RR,hRe⟩:∃ RR:Value → List (Int × Int) → HO,∀ x l,RR x l = HO.row x 49 2 (cat spc l):=⟨_,fun _ _=>rfl⟩
 have hn0:winL p 0 = []:=rfl
 have hrr:=fun H (hm:∀ h ∈ N,h ∈ H)=>row_rdv (w0:=⟨w,fun _=>False⟩) (H:=H) (hm _ hN2) ⟨_,_,_,rfl,by rw [cat_len b1_len,hrl],har⟩
 simp (config := { maxSteps := 4000000 }) only [↓sxw,sxw,tf166,sxu,sxl,sxm,simprocAttr]
 refine loop_constH (RR (.slice none 0 0) (winL p 0) :: N) (by rw [hRe]; exact (HImp.sub (by simp)).trans (HImp.nilRow _ _ _ _)) [(10,13),(29,65)] (fun q:Nat × Value=>[(10,q.2),(29,I q.1)])
  (fun q H1=>q.1 ≤ c.tide.length ∧ (∃ ad cp,q.2 = .slice ad (winL p q.1).length cp ∧ (ad = none → winL p q.1 = [])) ∧ H1 = RR q.2 (winL p q.1) :: N) (fun q=>c.tide.length - q.1) (0,.slice none 0 0) ?_ ⟨Nat.zero_le _,⟨none,0,rfl,fun _=>rfl⟩,rfl⟩ ?_
 ·simp (config := { maxSteps := 4000000 }) only [↓sxw,sxw,tf166,sxu,sxl,sxm,simprocAttr]
  try simp
 rintro ⟨i,x⟩ H1 g1 hinv
 simp only [] at hinv
 obtain ⟨hi,⟨a1,c1,rfl,h1⟩,rfl⟩:=hinv
 have hwl:=winL_len p i
 by_cases hin:i = c.tide.length
 ·subst hin
  have e7:((c.tide.length:Int) < (c.tide.length:Int)) = False:=eq_false (by omega)
  refine ⟨?_⟩
  simp (config := { maxSteps := 4000000 }) only [↓sxw,sxw,tf166,sxu,sxl,sxm,simprocAttr,e7]
  refine .inr ⟨hE,_,rfl,?_⟩
  rw [hp]
  exact Got.row rfl (by rw [hRe]; exact List.mem_cons_self) h1
 have e7:((i:Int) < (c.tide.length:Int)) = True:=eq_true (by omega)
 have e8:wr ((i:Int) + 1) = ((i + 1:Nat):Int):=(wrap_id (by omega)).trans (by omega)
 have e1:wr ((i:Int) - 1) = (i:Int) - 1:=wrap_id (by omega)
 have hrd:=hrr (RR (.slice a1 (winL p i).length c1) (winL p i) :: N) (fun h hm=>List.mem_cons_of_mem _ hm)
 have hri:=hrt i (by omega)
 rcases Bool.eq_false_or_eq_true (p i) with hb | hb
 case inr=>
  have hw1:winL p (i + 1) = winL p i:=by rw [winL,hb]; simp
  rw [hb] at hri
  refine ⟨?_⟩
  simp (config := { maxSteps := 4000000 }) only [↓sxw,sxw,tf166,sxu,sxl,sxm,simprocAttr,e7]
  refine amid (at_1 hrd b1_len hri rfl fun ad1=>?_)
  simp (config := { maxSteps := 4000000 }) only [↓sxw,sxw,tf166,sxu,sxl,sxm,simprocAttr,e8]
  exact ⟨(i + 1,.slice a1 (winL p i).length c1),_,⟨rfl,rfl⟩,HImp.refl _ _,⟨by simp only []; omega,⟨a1,c1,by simp only []; rw [hw1],by simp only []; rw [hw1]; exact h1⟩,by simp only []; rw [hw1]⟩,by simp only []; omega⟩
 have hw1:winL p (i + 1) = growL (winL p i) i:=by rw [winL,hb]; simp
 rw [hb] at hri
 refine ⟨?_⟩
 simp (config := { maxSteps := 4000000 }) only [↓sxw,sxw,tf166,sxu,sxl,sxm,simprocAttr,e7]
 refine amid (at_1 hrd b1_len hri rfl fun ad1=>?_)
 have hra:∀ ad2 c2,HImp ⟨w,fun _=>False⟩ (HO.row (.slice (some ad2) ((winL p i).length + 1) c2) 49 2 (cat spc (winL p i ++ [((i:Int),(i:Int))])) :: N) (RR (.slice (some ad2) ((winL p i).length + 1) c2) (winL p i ++ [((i:Int),(i:Int))]) :: N):=fun ad2 c2=>by rw [hRe]; exact HImp.refl _ _
 have hin0:HImp ⟨w,fun _=>False⟩ (RR (.slice a1 (winL p i).length c1) (winL p i) :: N) (HO.row (.slice a1 (winL p i).length c1) 49 2 (cat spc (winL p i)) :: N):=by rw [hRe]; exact HImp.refl _ _
 have happ:growL (winL p i) i = winL p i ++ [((i:Int),(i:Int))] → ∀ ad2 c2,∃ s':Nat × Value,∃ H',s'.2 = .slice (some ad2) ((winL p i).length + 1) c2 ∧ s'.1 = i + 1 ∧ HImp ⟨w,fun _=>False⟩ (HO.row (.slice (some ad2) ((winL p i).length + 1) c2) 49 2 (cat spc (winL p i ++ [((i:Int),(i:Int))])) :: N) H' ∧ (s'.1 ≤ c.tide.length ∧ (∃ ad cp,s'.2 = .slice ad (winL p s'.1).length cp ∧ (ad = none → winL p s'.1 = [])) ∧ H' = RR s'.2 (winL p s'.1) :: N) ∧ c.tide.length - s'.1 < c.tide.length - i:=fun hg ad2 c2=>by
  refine ⟨(i + 1,.slice (some ad2) ((winL p i).length + 1) c2),_,rfl,rfl,hra ad2 c2,⟨by simp only []; omega,⟨some ad2,c2,?_,fun h=>by cases h⟩,?_⟩,by simp only []; omega⟩
  ·simp only []
   rw [hw1,hg,List.length_append]
   try rfl
  ·simp only []
   rw [hw1,hg]
 by_cases h0:winL p i = []
 ·have hg:growL (winL p i) i = winL p i ++ [((i:Int),(i:Int))]:=by rw [h0]; rfl
  have e0:(((winL p i).length:Int) > 0) = False:=eq_false (by rw [h0]; simp)
  simp (config := { maxSteps := 4000000 }) only [↓sxw,sxw,tf166,sxu,sxl,sxm,simprocAttr,e0]
  intro b2
  refine app_one (l:=winL p i) ((i:Int),(i:Int)) hin0 spc_len spc_one (by omega) fun ad2 c2=>?_
  simp (config := { maxSteps := 4000000 }) only [↓sxw,sxw,tf166,sxu,sxl,sxm,simprocAttr,e8]
  obtain ⟨s',H',q1,q2,q3,q4,q5⟩:=happ hg ad2 c2
  exact ⟨s',H',⟨by rw [q1],by rw [q2]⟩,q3,q4,q5⟩
 have hlp:0 < (winL p i).length:=List.length_pos_iff.2 h0
 have e2:(((winL p i).length:Int) > 0) = True:=eq_true (by omega)
 have e3:wr (((winL p i).length:Int) - 1) = (((winL p i).length - 1:Nat):Int):=(wrap_id (by omega)).trans (by omega)
 obtain ⟨y,hy⟩:∃ y,(winL p i)[(winL p i).length - 1]? = some y:=⟨_,List.getElem?_eq_getElem (by omega)⟩
 have hro:=row_rdv (w0:=⟨w,fun _=>False⟩) (H:=RR (.slice a1 (winL p i).length c1) (winL p i) :: N) (E:=49) (v:=.slice a1 (winL p i).length c1) (sz:=2) (xs:=cat spc (winL p i)) (by rw [hRe]; exact List.mem_cons_self) ⟨_,_,_,rfl,by rw [cat_len spc_len],fun h=>by rw [h1 h]; rfl⟩
 cases a1 with
 | none=>exact absurd (h1 rfl) h0
 | some ad0=>
 simp (config := { maxSteps := 4000000 }) only [↓sxw,sxw,tf166,sxu,sxl,sxm,simprocAttr,e2,e3]
 refine at_f hro spc_len hy (o:=1) (x:=I y.2) rfl fun ad2=>?_
 by_cases hq:y.2 = (i:Int) - 1
 ·have e5:(y.2 = (i:Int) - 1) = True:=eq_true hq
  have hg:growL (winL p i) i = (winL p i).set ((winL p i).length - 1) (y.1,(i:Int)):=by unfold growL; rw [hy]; simp [hq]
  simp (config := { maxSteps := 4000000 }) only [↓sxw,sxw,tf166,sxu,sxl,sxm,simprocAttr,e1,e5,e3]
  refine ⟨by omega,by omega,_,rfl,?_⟩
  refine wr_f1 (A:=[]) (B:=N) (o:=1) (u:=y) (y.1,(i:Int)) (by rw [hRe]; rfl) spc_len rfl hy rfl (by omega) ?_
  simp (config := { maxSteps := 4000000 }) only [↓sxw,sxw,tf166,sxu,sxl,sxm,simprocAttr,e8]
  refine ⟨(i + 1,.slice (some ad0) (winL p i).length c1),_,⟨rfl,rfl⟩,HImp.refl _ _,⟨by simp only []; omega,⟨some ad0,c1,?_,fun h=>by cases h⟩,?_⟩,by simp only []; omega⟩
  ·simp only []
   rw [hw1,hg,List.length_set]
  ·simp only []
   rw [hw1,hg,hRe]
 ·have e5:(y.2 = (i:Int) - 1) = False:=eq_false hq
  have hg:growL (winL p i) i = winL p i ++ [((i:Int),(i:Int))]:=by unfold growL; rw [hy]; simp [hq]
  simp (config := { maxSteps := 4000000 }) only [↓sxw,sxw,tf166,sxu,sxl,sxm,simprocAttr,e1,e5,e3]
  intro b2
  refine app_one (l:=winL p i) ((i:Int),(i:Int)) hin0 spc_len spc_one (by omega) fun ad2 c2=>?_
  simp (config := { maxSteps := 4000000 }) only [↓sxw,sxw,tf166,sxu,sxl,sxm,simprocAttr,e8]
  obtain ⟨s',H',q1,q2,q3,q4,q5⟩:=happ hg ad2 c2
  exact ⟨s',H',⟨by rw [q1],by rw [q2]⟩,q3,q4,q5⟩
end Go.Proofs.YtljpknnhimkkjaaGreatDoor

