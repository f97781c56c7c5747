/- A part of a proof: the symbolic walk and what it shows of single functions. -/
import Derived.Test.YtljpknnhimkkjaaGreatDoorH4
import Derived.Test.YtljpknnhimkkjaaGreatDoorH4
set_option linter.all false
namespace Go.Proofs.YtljpknnhimkkjaaGreatDoor
open Go.RowKit Go.SX
set_option maxRecDepth 10000
set_option maxHeartbeats 0
set_option linter.unusedSimpArgs false
set_option linter.unusedVariables false
def VldP (x:Cst) (r:Value):Prop:=∃ b,r = .bool b ∧ (b = true → x.small ∧ x.ok ∧ x.bases.length ≤ 3)
theorem valid8_fn (w:World) (hw:Ways w) (v:Value) (x:Cst) (hx:CoOk w v x):SX.Fn Tryz.prog 24 [v] w (fun _=>False) fun r N=>VldP x r:=by
 have dn:∀ (g:Nat) (xs:List Value),det0 g xs = none:=fun _ _=>rfl
 have hfa:=fun (H:List HO) w' (hp:Hp ⟨w,fun _=>False⟩ H w')=>far8_fn w' v x (hx.hp hp)
 have hck:=fun (hsm:x.small) (H:List HO) w' (hp:Hp ⟨w,fun _=>False⟩ H w')=>rcheck8_fn w' (hw.hp hp) v x (hx.hp hp) hsm
 have hno:VldP x (.bool false):=⟨false,rfl,fun h=>by cases h⟩
 obtain ⟨sD,sT,sS,vb,vm,pb,rfl,_⟩:=hx
 unfold cov at hfa hck ⊢
 refine walk [] [] (det0_ok _ _) Tryz.func24 rfl Tryz.ntmps24 res24 (by kernel_rfl) no_facts ?_
 simp (config := { maxSteps := 4000000 }) only [↓sxw,sxw,tf24,sxu,sxl,sxm,simprocAttr,dn]
 refine CallOb.pureH (fun w' hp=>hfa _ w' hp) ?_
 rintro r N ⟨b,rfl,hb⟩
 cases b with
 | true=>
  refine ⟨?_⟩
  simp (config := { maxSteps := 4000000 }) only [↓sxw,sxw,tf24,sxu,sxl,sxm,simprocAttr,dn]
  exact hno
 | false=>
 obtain ⟨hsm,hb3⟩:=hb rfl
 refine ⟨?_⟩
 simp (config := { maxSteps := 4000000 }) only [↓sxw,sxw,tf24,sxu,sxl,sxm,simprocAttr,dn]
 refine CallOb.pureH (fun w' hp=>hck hsm _ w' hp) ?_
 rintro r N2 rfl
 obtain ⟨OK,hOK⟩:∃ b,x.okB = b:=⟨_,rfl⟩
 rw [hOK]
 cases OK with
 | false=>
  refine ⟨?_⟩
  simp (config := { maxSteps := 4000000 }) only [↓sxw,sxw,tf24,sxu,sxl,sxm,simprocAttr,dn]
  exact hno
 | true=>
  have hok:=(Cst.okB_iff x).1 hOK
  refine ⟨?_⟩
  simp (config := { maxSteps := 4000000 }) only [↓sxw,sxw,tf24,sxu,sxl,sxm,simprocAttr,dn]
  exact ⟨true,rfl,fun _=>⟨hsm,hok,hb3 hok⟩⟩
theorem outV_bnd (c:Cht) (b:Cls) (k t:Nat):∀ m x,outV c b k t m x = -1 ∨ ((t:Int) ≤ outV c b k t m x ∧ outV c b k t m x < ((t + m:Nat):Int))
 | 0,x=>.inl rfl
 | m + 1,x=>by
  rw [outV]
  split
  ·right
   omega
  ·rcases outV_bnd c b k t m x with h | h
   ·exact .inl h
   ·right
    omega
theorem reach_bnd {c:Cht} (b:Cls) (r:Rmp) {t cell:Nat} (ht:t ≤ c.tide.length) (hc:cell < c.depth.length):(reachL c b r t).getD cell 0 = -1 ∨ ((t:Int) ≤ (reachL c b r t).getD cell 0 ∧ (reachL c b r t).getD cell 0 < c.tide.length):=by
 unfold reachL
 split
 ·rw [List.getD_eq_getElem?_getD,List.getElem?_map,List.getElem?_range hc]
  have:=outV_bnd c b r.cell.toNat t (c.tide.length - t) cell
  simp only [Option.map_some,Option.getD_some]
  omega
 ·rw [List.getD_eq_getElem?_getD,List.getElem?_replicate,if_pos hc]
  exact .inl rfl
theorem arvM_bnd {c:Cht} (b:Bse) {cell beg:Nat} (hc:cell < c.depth.length):∀ m,beg + m ≤ c.tide.length → arvM c b cell beg m = -1 ∨ ((beg:Int) ≤ arvM c b cell beg m ∧ arvM c b cell beg m < c.tide.length)
 | 0,_=>.inl rfl
 | m + 1,h=>by
  have hl:beg + m ≤ c.tide.length:=by
   have:=Nat.add_assoc beg m 1
   omega
  have h1:=arvM_bnd b hc m hl
  have h2:=reach_bnd b.cls b.rmp (t:=beg + m) hl hc
  rw [arvM]
  generalize (reachL c b.cls b.rmp (beg + m)).getD cell 0 = v at h2 ⊢
  generalize arvM c b cell beg m = u at h1 ⊢
  split
  ·rename_i h3
   have h4:=h3.1
   omega
  ·exact h1
theorem arv_bnd {x:Cst} {b:Bse} {call:Int} {cell:Nat} (hc:cell < x.cht.depth.length):arv x b call cell = -1 ∨ (musE b.stn call b.seats x.length = 0 ∧ call ≤ arv x b call cell ∧ musT b.stn call b.seats x.length ≤ arv x b call cell ∧ arv x b call cell < x.cht.tide.length):=by
 unfold arv
 split
 ·rename_i h
  have hb:=musT_bnd h
  by_cases h2:(musT b.stn call b.seats x.length).toNat ≤ x.cht.tide.length
  ·have:=arvM_bnd b hc (beg:=(musT b.stn call b.seats x.length).toNat) (x.cht.tide.length - (musT b.stn call b.seats x.length).toNat) (by omega)
   rcases this with h3 | h3
   ·exact .inl h3
   ·right
    refine ⟨h,?_,?_,h3.2⟩ <;> omega
  ·left
   rw [show x.cht.tide.length - (musT b.stn call b.seats x.length).toNat = 0 by omega]
   rfl
 ·exact .inl rfl
theorem callE_call {x:Cst} (hok:x.ok) {b:Bse} (hb:b ∈ x.bases) {call:Int} (h0:0 ≤ call) (h1:call < x.calls):callE b.stn call b.seats x.length = 0:=by
 obtain ⟨h2,_,_,h3⟩:=chkW_zero (hok.bas b hb).2
 have h4:=hok.cal
 have h5:=hok.cht.2.2.2.1
 have h6:inBK call 0 100 = true:=(inB_iffK _ _ _).2 (by omega)
 have h7:inBK x.length 1 40 = true:=(inB_iffK _ _ _).2 hok.len
 unfold callE
 rw [if_pos h2,h6,h7,h3]
 rfl
theorem musE_or {s:Stn} {call:Int} {l:List Int} {len:Int} (h:callE s call l len = 0):musE s call l len = 0 ∨ musE s call l len = 3:=by
 unfold musE
 rw [if_pos h]
 cases musG s call len l with
 | none=>exact .inr rfl
 | some q=>exact .inl rfl
end Go.Proofs.YtljpknnhimkkjaaGreatDoor
