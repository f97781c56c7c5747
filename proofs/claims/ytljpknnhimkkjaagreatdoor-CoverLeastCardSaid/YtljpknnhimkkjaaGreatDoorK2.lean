/- Parts of a proof: the symbolic walk and what it shows of single functions. -/
import Derived.Test.YtljpknnhimkkjaaGreatDoorK1
set_option linter.all false
namespace Go.Proofs.YtljpknnhimkkjaaGreatDoor
open Go.RowKit Go.SX
set_option maxRecDepth 10000
set_option maxHeartbeats 4000000
set_option linter.unusedSimpArgs false
set_option linter.unusedVariables false
def pc (b:Nat):List Value:=[.pointer (some ⟨b,0,none⟩)]
theorem pc_len (b:Nat):(pc b).length = 1:=rfl
theorem pc_one (b:Nat):∀ y ∈ pc b,y.oneCell' = true:=by simp [pc,Value.oneCell']
def noS:Int → Bool:=fun _=>false
def RoN (N:List HO) (v:Value) (s:Stn) (br:Nat):Prop:=∃ hv ao co bs,v = .agg #[hv,I s.window,I s.duty] ∧ .cells br 143 [hv,I s.window,I s.duty,.slice ao s.hands.length co] ∈ N ∧ HO.row (.slice ao s.hands.length co) 221 1 (cat pc bs) ∈ N ∧ bs.length = s.hands.length ∧
 (ao = none → bs = []) ∧ ∀ (i b:Nat) (h:Hnd),bs[i]? = some b → s.hands[i]? = some h → HO.cells b 249 (dcs (srv h.log) noS) ∈ N
def RoOk (w:World) (br:Nat) (s:Stn):Prop:=∃ hv lv ps bs,(∀ (i:Nat) x,[hv,I s.window,I s.duty,lv][i]? = some x → w.cell? ⟨br,i,none⟩ = some x) ∧ ps.map Prod.fst = s.hands ∧ Sl w hv 5 (cat hdc ps) ∧ (∀ p ∈ ps,LogOk w p) ∧ Sl w lv 1 (cat pc bs) ∧ bs.length = s.hands.length ∧
 ∀ (i b:Nat) (h:Hnd),bs[i]? = some b → s.hands[i]? = some h → DutyOk w b (srv h.log) noS
theorem RoN.ok {N H:List HO} {w0:Base} {w:World} {v:Value} {s:Stn} {br:Nat} (h:RoN N v s br) (hm:∀ h ∈ N,h ∈ H) (hp:Hp w0 H w) (hs:StOk w v s):RoOk w br s:=by
 obtain ⟨hv,ao,co,bs,rfl,h1,h2,h3,h4,h5⟩:=h
 obtain ⟨hv',ps,he,k1,k2,k3⟩:=hs
 have:hv' = hv:=by
  injection he with he
  injection he with he
  exact (List.cons.inj he).1.symm
 subst this
 refine ⟨hv',.slice ao s.hands.length co,ps,bs,fun i x hx=>?_,k1,k2,k3,row_hp (hm _ h2) hp,h3,fun i b h hb hh=>DutyOk.of (hm _ (h5 i b h hb hh)) hp⟩
 rw [cell_of_cells (hp.ok _ (hm _ h1))]
 simpa using hx
theorem RoOk.keep {w w':World} {br:Nat} {s:Stn} (h:RoOk w br s) (hk:Keep (fun _=>False) w w'):RoOk w' br s:=by
 obtain ⟨hv,lv,ps,bs,h1,h2,h3,h4,h5,h6,h7⟩:=h
 refine ⟨hv,lv,ps,bs,fun i x hx=>?_,h2,h3.keep hk (fun _ _=>id),fun p hp=>Sl.keep (h4 p hp) hk (fun _ _=>id),h5.keep hk (fun _ _=>id),h6,fun i b h hb hh j x hx=>?_⟩
 ·have:=h1 i x hx
  rw [World.cell?_of_block (w:=w) (hk.block br (World.block_lt_of_cell? w ⟨br,i,none⟩ this) id)]
  exact this
 ·have:=h7 i b h hb hh j x hx
  rw [World.cell?_of_block (w:=w) (hk.block b (World.block_lt_of_cell? w ⟨b,j,none⟩ this) id)]
  exact this
theorem RoOk.hp {w0:World} {H:List HO} {br:Nat} {s:Stn} (h:RoOk w0 br s) {w:World} (hp:Hp ⟨w0,fun _=>False⟩ H w):RoOk w br s:=h.keep hp.ext
theorem okB_of {s:Stn} (h:s.okB = true):s.hands.length ≤ 10 ∧ (1 ≤ s.window ∧ s.window ≤ 100) ∧ (0 ≤ s.duty ∧ s.duty ≤ s.window) ∧ ∀ h ∈ s.hands,handB h = true:=by
 unfold Stn.okB at h
 simp only [Bool.and_eq_true,decide_eq_true_eq,inB_iffK,List.all_eq_true] at h
 exact ⟨h.1.1.1,h.1.1.2,h.1.2,h.2⟩
theorem handB_of {h:Hnd} (hb:handB h = true):(0 ≤ h.skills ∧ h.skills ≤ 255) ∧ 0 ≤ h.low ∧ h.low ≤ h.high ∧ h.high ≤ 60 ∧ logdB h.log = true ∧ 0 ≤ h.ans ∧ h.ans ≤ 2:=by
 unfold handB at hb
 simp only [Bool.and_eq_true,decide_eq_true_eq,inB_iffK] at hb
 exact ⟨hb.1.1.1.1.1,hb.1.1.1.1.2,hb.1.1.1.2,hb.1.1.2,hb.1.2,hb.2⟩
theorem open_fnK (w:World) (v:Value) (s:Stn) (hs:StOk w v s) (hsm:s.small):SX.Fn Tryz.prog 124 [v] w (fun _=>False) fun r N=>(s.okB = false ∧ r = .tuple #[.pointer none,I 70]) ∨ (s.okB = true ∧ ∃ br,r = .tuple #[.pointer (some ⟨br,0,none⟩),I 0] ∧ RoN N v s br):=by
 have hs0:=hs
 obtain ⟨hv,ps,rfl,hps,hsl,hlg⟩:=hs
 obtain ⟨a,n,c,rfl⟩:=hsl.shape
 have hn:=hsl.le hdc_len (by omega)
 have hlen:s.hands.length = ps.length:=by rw [← hps,List.length_map]
 subst hn
 have hr:=hsl.rd0
 have hsm1:=hsm.1
 refine walk [15] [] (det0K_ok _ _) Tryz.func124 rfl Tryz.ntmps124 res124 (by kernel_rfl) no_facts ?_
 simp (config := { maxSteps := 4000000 }) only [↓sxw,sxw,tf124,sxu,sxl,sxm,simprocAttr,det0K]
 refine CallOb.pureH (fun w' hp=>check_fnK w' _ s (hs0.hp hp) hsm) ?_
 rintro r N rfl
 cases hok:s.okB with
 | false=>
  refine ⟨?_⟩
  simp (config := { maxSteps := 4000000 }) only [↓sxw,sxw,tf124,sxu,sxl,sxm,simprocAttr]
  exact .inl trivial
 | true=>
 have hob:=okB_of hok
 refine ⟨?_⟩
 simp (config := { maxSteps := 4000000 }) only [↓sxw,sxw,tf124,sxu,sxl,sxm,simprocAttr]
 intro br
 refine loop_constH [.cells br 143 [.slice a ps.length c,I s.window,I s.duty,.slice none 0 0],.row (.slice none 0 0) 221 1 []] ((HImp.sub (.cons_cons _ (List.nil_sublist _))).trans ((HImp.nilRow _ _ _ _).trans (HImp.swap _ _ _ _))) [(7,7),(19,34)] (fun k:Nat=>[(19,I k)])
  (fun k H1=>k ≤ ps.length ∧ ∃ ao co bs DF,bs.length = k ∧ (ao = none → bs = []) ∧ H1 = .cells br 143 [.slice a ps.length c,I s.window,I s.duty,.slice ao k co] :: .row (.slice ao k co) 221 1 (cat pc bs) :: DF ∧
   ∀ (i b:Nat) (h:Hnd),bs[i]? = some b → s.hands[i]? = some h → HO.cells b 249 (dcs (srv h.log) noS) ∈ DF) (fun k=>ps.length - k) 0 ?_ ⟨Nat.zero_le _,none,0,[],[],rfl,fun _=>rfl,rfl,fun i b h hb=>by simp at hb⟩ ?_
 ·simp (config := { maxSteps := 4000000 }) only [↓sxw,sxw,tf124,sxu,sxl,sxm,simprocAttr]
  try simp
 rintro k H1 g1 ⟨hk,ao,co,bs,DF,hbl,hnil,rfl,hdf⟩
 by_cases hkn:k = ps.length
 ·have e7:((k:Int) < (ps.length:Int)) = False:=eq_false (by omega)
  refine ⟨?_⟩
  simp (config := { maxSteps := 4000000 }) only [↓sxw,sxw,tf124,sxu,sxl,sxm,simprocAttr,e7]
  refine .inr ⟨br,rfl,_,ao,co,bs,rfl,?_,?_,by omega,hnil,fun i b h hb hh=>List.mem_cons_of_mem _ (List.mem_cons_of_mem _ (hdf i b h hb hh))⟩
  ·rw [hlen,← hkn]
   exact List.mem_cons_self
  ·rw [hlen,← hkn]
   exact List.mem_cons_of_mem _ List.mem_cons_self
 have e7:((k:Int) < (ps.length:Int)) = True:=eq_true (by omega)
 have e2:wrK (k + 1) = ((k + 1:Nat):Int):=(wrap_id (by omega)).trans (by omega)
 have hkl:k < ps.length:=by omega
 have hu:=List.getElem?_eq_getElem hkl
 have hm:=List.getElem_mem hkl
 have hhk:s.hands[k]? = some (ps[k]).1:=by rw [← hps,List.getElem?_map,hu]; rfl
 generalize ps[k] = p at hu hm hhk
 have hbg:=fun (H:List HO) w' (hp:Hp ⟨w,fun _=>False⟩ H w')=>begin_fn w' p ((hlg p hm).hp hp) (handB_of (hob.2.2.2 _ (List.mem_of_getElem? hhk))).2.2.2.2.1
 refine ⟨?_⟩
 simp (config := { maxSteps := 4000000 }) only [↓sxw,sxw,tf124,sxu,sxl,sxm,simprocAttr,e7]
 refine amid (at_n (hr _) hdc_len (by omega) hu fun ad=>?_)
 have hl1:(lgv p).oneCell' = true:=rfl
 unfold hdc at hbg ⊢
 simp (config := { maxSteps := 4000000 }) only [↓sxw,sxw,tf124,sxu,sxl,sxm,simprocAttr,hl1]
 refine ld_cella List.mem_cons_self rfl ?_
 simp (config := { maxSteps := 4000000 }) only [↓sxw,sxw,tf124,sxu,sxl,sxm,simprocAttr,det0K]
 refine CallOb.pureH (fun w' hp=>hbg _ w' hp) ?_
 rintro r N1 ⟨b,rfl,hb⟩
 refine ⟨?_⟩
 simp (config := { maxSteps := 4000000 }) only [↓sxw,sxw,tf124,sxu,sxl,sxm,simprocAttr]
 intro b2
 have hperm:(N1 ++ HO.cells br 143 [.slice a ps.length c,I s.window,I s.duty,.slice ao k co] :: HO.row (.slice ao k co) 221 1 (cat pc bs) :: DF).Perm (HO.row (.slice ao k co) 221 1 (cat pc bs) :: HO.cells br 143 [.slice a ps.length c,I s.window,I s.duty,.slice ao k co] :: (N1 ++ DF)):=
  (List.perm_middle.trans (List.Perm.cons _ List.perm_middle)).trans (List.Perm.swap _ _ _)
 refine app_one (l:=bs) b (HImp.perm hperm) pc_len pc_one (by omega) fun ad2 c2=>?_
 rw [hbl]
 simp (config := { maxSteps := 4000000 }) only [↓sxw,sxw,tf124,sxu,sxl,sxm,simprocAttr]
 refine wr_cella (A:=[_]) rfl (by simp) ?_
 simp (config := { maxSteps := 4000000 }) only [↓sxw,sxw,tf124,sxu,sxl,sxm,simprocAttr,e2]
 refine ⟨k + 1,_,rfl,HImp.swap _ _ _ _,⟨by omega,some ad2,c2,bs ++ [b],N1 ++ DF,by simp [hbl],fun h=>(by cases h),rfl,fun i b' h hb' hh=>?_⟩,by omega⟩
 by_cases hi:i < k
 ·rw [List.getElem?_append_left (by omega)] at hb'
  exact List.mem_append_right _ (hdf i b' h hb' hh)
 ·have hik:i = k:=by
   have:=(List.getElem?_eq_some_iff.1 hb').1
   rw [List.length_append,hbl,List.length_singleton] at this
   omega
  subst hik
  rw [List.getElem?_append_right (by omega),hbl,Nat.sub_self] at hb'
  simp only [List.getElem?_cons_zero,Option.some.injEq] at hb'
  subst hb'
  rw [hhk] at hh
  cases hh
  exact List.mem_append_left _ hb
theorem ld_oldn {w0:Base} {H:List HO} {a:Addr} {b o n:Nat} {vs:List Value} {K:SV → Prop} (e:a = ⟨b,o,none⟩) (h:∀ (i:Nat) v,vs[i]? = some v → w0.w.cell? ⟨b,o + i,none⟩ = some v) (hl:vs.length = n) (hX:¬ w0.X b) (hK:K (.v (.agg vs.toArray))):hold (LdOb w0 H a (some n) K) ⟨0⟩:=by
 subst e
 exact ⟨vs,hl,fun i v hi=>.inl ⟨by rw [add_block]; exact h i v hi,by rw [add_block]; exact hX⟩,hK⟩
def mayP (s:Stn) (h:Hnd) (t len:Int):Prop:=allAlw (fun u=>srv h.log u || inS (t,t + len - 1) u) (fun u=>noS u || inS (t,t + len - 1) u) s.window.toNat s.duty
open Classical in
theorem may_fn (w:World) (br:Nat) (s:Stn) (hro:RoOk w br s) (hW:1 ≤ s.window ∧ s.window ≤ 100) (k:Nat) (h:Hnd) (hk:s.hands[k]? = some h) (hn:s.hands.length ≤ 100) (t len:Int) (ht:-300 ≤ t) (hl:0 ≤ len) (htl:t + len ≤ 600):
  SX.Fn Tryz.prog 177 [.pointer (some ⟨br,0,none⟩),I k,I t,I len] w (fun _=>False) fun r N=>r = .bool (decide (mayP s h t len)):=by
 obtain ⟨hv,lv,ps,bs,h1,h2,h3,h4,h5,h6,h7⟩:=hro
 obtain ⟨al,nl,cl,rfl⟩:=h5.shape
 have hnl:=h5.le pc_len (by omega)
 subst hnl
 have hr:=h5.rd0
 have hkl:=(List.getElem?_eq_some_iff.1 hk).1
 have hb:∃ b,bs[k]? = some b:=⟨_,List.getElem?_eq_getElem (by omega)⟩
 obtain ⟨b,hb⟩:=hb
 have hdu:=h7 k b h hb hk
 have e1:wrK (t + len) = t + len:=wrap_id (by omega)
 have e2:wrK (t + len - 1) = t + len - 1:=wrap_id (by omega)
 have hWn:(s.window.toNat:Int) = s.window:=by omega
 have e7:((k:Int) < (bs.length:Int)) = True:=eq_true (by omega)
 have r1:=h1 1 _ rfl
 have r2:=h1 2 _ rfl
 have r3:=h1 3 _ rfl
 unfold mayP
 rw [← hWn] at r1
 generalize s.window.toNat = Wn at hWn r1
 refine walk [] [(1,(ones [0,1,2,3,4,5,6,7,8,9,10,11,12,13,14,16,17,18,19,20,21,22,23,24,25,15,26,27] .fin))] (det0K_ok _ _) Tryz.func177 rfl Tryz.ntmps177 res177 (by kernel_rfl) no_facts ?_
 simp (config := { maxSteps := 4000000 }) only [↓sxw,sxw,tf177,sxu,sxl,sxm,simprocAttr,det0K]
 refine ld_olda (by simp [add_block]) r3 id ?_
 simp (config := { maxSteps := 4000000 }) only [↓sxw,sxw,tf177,sxu,sxl,sxm,simprocAttr,e7]
 refine amid (at_1 (hr _) pc_len hb rfl fun ad1=>?_)
 simp (config := { maxSteps := 4000000 }) only [↓sxw,sxw,tf177,sxu,sxl,sxm,simprocAttr]
 refine ld_oldn (b:=b) (o:=0) rfl (fun i v hi=>by rw [Nat.zero_add]; exact hdu i v hi) (dcs_len _ _) id ?_
 simp (config := { maxSteps := 4000000 }) only [↓sxw,sxw,tf177,sxu,sxl,sxm,simprocAttr,e1,e2,det0K]
 refine ld_olda (by simp [add_block]) r1 id ?_
 simp (config := { maxSteps := 4000000 }) only [↓sxw,sxw,tf177,sxu,sxl,sxm,simprocAttr]
 refine ld_olda (by simp [add_block]) r2 id ?_
 simp (config := { maxSteps := 4000000 }) only [↓sxw,sxw,tf177,sxu,sxl,sxm,simprocAttr,det0K]
 refine CallOb.pureH (fun w' hp=>add_fn w' (srv h.log) noS t (t + len - 1) ht (by omega) (by omega)) ?_
 rintro r N ⟨b2,rfl,hb2⟩
 refine ⟨?_⟩
 simp (config := { maxSteps := 4000000 }) only [↓sxw,sxw,tf177,sxu,sxl,sxm,simprocAttr,det0K]
 refine CallOb.pureH (fun w' hp=>allowed_fn w' b2 _ _ (DutyOk.of (List.mem_append_left _ hb2) hp) Wn s.duty (by omega)) ?_
 rintro r N2 rfl
 refine ⟨?_⟩
 simp (config := { maxSteps := 4000000 }) only [↓sxw,sxw,tf177,sxu,sxl,sxm,simprocAttr]
end Go.Proofs.YtljpknnhimkkjaaGreatDoor

namespace Go.Proofs.YtljpknnhimkkjaaGreatDoor
open Go.RowKit Go.SX
set_option maxRecDepth 10000
set_option maxHeartbeats 4000000
set_option linter.unusedSimpArgs false
set_option linter.unusedVariables false
def seatE (l:List Int):Int:=if l.length > 5 then 2 else if l.any (fun n=>!inBK n 0 255) then 71 else 0
theorem seated_fn (w:World) (v:Value) (l:List Int) (hs:Sl w v 1 (ints l)) (hb:l.length ≤ 1000):SX.Fn Tryz.prog 125 [v] w (fun _=>False) fun r N=>r = I (seatE l):=by
 have hs0:=hs
 obtain ⟨a,n,c,rfl⟩:=hs.shape
 have hn:=hs.le i1_len (by omega)
 subst hn
 unfold seatE
 refine walk [] [] (det0K_ok _ _) Tryz.func125 rfl Tryz.ntmps125 res125 (by kernel_rfl) no_facts ?_
 by_cases h1:l.length > 5
 ·have e1:((l.length:Int) > 5) = True:=eq_true (by omega)
  rw [if_pos h1]
  simp (config := { maxSteps := 4000000 }) only [↓sxw,sxw,tf125,sxu,sxl,sxm,simprocAttr,e1]
 ·have e1:((l.length:Int) > 5) = False:=eq_false (by omega)
  rw [if_neg h1]
  simp (config := { maxSteps := 4000000 }) only [↓sxw,sxw,tf125,sxu,sxl,sxm,simprocAttr,e1,det0K]
  refine CallOb.pureH (fun w' hp=>containsI_fnK w' _ l _ [] _ (hs0.hp (fun _ _=>id) hp) (by omega) (tells_set w')) ?_
  rintro r N rfl
  cases h2:(l.any fun n=>!inBK n 0 255) with
  | true=>
   refine ⟨?_⟩
   simp (config := { maxSteps := 4000000 }) only [↓sxw,sxw,tf125,sxu,sxl,sxm,simprocAttr]
  | false=>
   refine ⟨?_⟩
   simp (config := { maxSteps := 4000000 }) only [↓sxw,sxw,tf125,sxu,sxl,sxm,simprocAttr]
def kc (f:Nat → Int):List Value:=(List.range 101).map fun j=>.int .i8 (f j)
theorem kc_len (f:Nat → Int):(kc f).length = 101:=by unfold kc; rw [List.length_map,List.length_range]
theorem kc_zero:rep 101 (.int .i8 0) = kc (fun _=>0):=by
 unfold rep kc
 rw [show (fun j:Nat=>Value.int .i8 ((fun _=>(0:Int)) j)) = fun _=>Value.int .i8 0 from rfl,List.map_const',List.length_range]
theorem kc_get (f:Nat → Int) {j:Nat} (hj:j < 101):(kc f)[j]? = some (.int .i8 (f j)):=by
 unfold kc
 rw [List.getElem?_map,List.getElem?_range hj]
 try rfl
def callE (s:Stn) (at_:Int) (l:List Int) (len:Int):Int:=if s.okB then (if inBK at_ 0 100 && inBK len 1 40 then seatE l else 1) else 70
def CaN (N:List HO) (v:Value) (s:Stn) (at_ len:Int) (bc:Nat):Prop:=∃ br bk,RoN N v s br ∧ HO.cells bc 140 [.pointer (some ⟨br,0,none⟩),I at_,I len,.slice (some ⟨bk,0,none⟩) s.hands.length s.hands.length] ∈ N ∧
 HO.row (.slice (some ⟨bk,0,none⟩) s.hands.length s.hands.length) 253 101 (cat kc (List.replicate s.hands.length fun _=>0)) ∈ N
theorem callE_zero {s:Stn} {a:Int} {l:List Int} {len:Int} (h:callE s a l len = 0):s.okB = true ∧ (0 ≤ a ∧ a ≤ 100) ∧ (1 ≤ len ∧ len ≤ 40) ∧ l.length ≤ 5 ∧ ∀ x ∈ l,0 ≤ x ∧ x ≤ 255:=by
 unfold callE at h
 split at h
 ·rename_i h1
  split at h
  ·rename_i h2
   rw [Bool.and_eq_true,inB_iffK,inB_iffK] at h2
   unfold seatE at h
   split at h
   ·cases h
   ·split at h
    ·cases h
    ·rename_i h3 h4
     refine ⟨h1,h2.1,h2.2,by omega,fun x hx=>?_⟩
     rw [Bool.not_eq_true,List.any_eq_false] at h4
     have:=h4 x hx
     rw [Bool.not_eq_true,Bool.not_eq_false',inB_iffK] at this
     exact this
  ·cases h
 ·cases h
theorem call_fn (w:World) (v:Value) (s:Stn) (hs:StOk w v s) (hsm:s.small) (at_:Int) (vl:Value) (l:List Int) (hl:Sl w vl 1 (ints l)) (hlb:l.length ≤ 1000) (len:Int):
  SX.Fn Tryz.prog 69 [v,I at_,vl,I len] w (fun _=>False) fun r N=>∃ x:Option Addr,r = .tuple #[.pointer x,I (callE s at_ l len)] ∧ (callE s at_ l len = 0 → ∃ bc,x = some ⟨bc,0,none⟩ ∧ CaN N v s at_ len bc):=by
 have hs0:=hs
 have hl0:=hl
 have hop:=fun (H:List HO) w' (hp:Hp ⟨w,fun _=>False⟩ H w')=>open_fnK w' v s (hs0.hp hp) hsm
 have hse:=fun (H:List HO) w' (hp:Hp ⟨w,fun _=>False⟩ H w')=>seated_fn w' vl l (hl0.hp (fun _ _=>id) hp) hlb
 obtain ⟨hv,ps,rfl,hps,hsl,hlg⟩:=hs
 obtain ⟨a,n,c,rfl⟩:=hsl.shape
 have hn:=hsl.le hdc_len (by omega)
 have hlen:s.hands.length = ps.length:=by rw [← hps,List.length_map]
 subst hn
 have hsm1:=hsm.1
 have dn:(∀ xs,detAK 124 xs = none) ∧ (∀ xs,detAK 125 xs = none):=⟨fun _=>rfl,fun _=>rfl⟩
 obtain ⟨al,nl,cl,rfl⟩:=hl.shape
 refine walk [38] [(6,(ones [0,1,2,3,4,5,9] (.alt 6 (ones [7] (.alt 8 (ones [10,11,12] .fin) (.alt 10 (ones [8,11,12] .fin) .no))) (.alt 10 (ones [6,7,8,11,12] .fin) .no))))] (detAK_ok _ _) Tryz.func69 rfl Tryz.ntmps69 res69 (by kernel_rfl) no_facts ?_
 simp (config := { maxSteps := 4000000 }) only [↓sxw,sxw,tf69,sxu,sxl,sxm,simprocAttr,dn]
 refine CallOb.pureH (fun w' hp=>hop _ w' hp) ?_
 rintro r N (⟨hok,rfl⟩ | ⟨hok,br,rfl,hro⟩)
 ·have he:callE s at_ l len = 70:=by unfold callE; rw [hok]; rfl
  rw [he]
  refine ⟨?_⟩
  simp (config := { maxSteps := 4000000 }) only [↓sxw,sxw,tf69,sxu,sxl,sxm,simprocAttr]
  exact ⟨_,rfl⟩
 cases h1:inBK at_ 0 100 with
 | false=>
  have he:callE s at_ l len = 1:=by unfold callE; rw [hok,h1]; rfl
  rw [he]
  refine ⟨?_⟩
  simp (config := { maxSteps := 4000000 }) only [↓sxw,sxw,tf69,sxu,sxl,sxm,simprocAttr,detA_eqK,h1]
  exact ⟨_,rfl⟩
 | true=>
 cases h2:inBK len 1 40 with
 | false=>
  have he:callE s at_ l len = 1:=by unfold callE; rw [hok,h1,h2]; rfl
  rw [he]
  refine ⟨?_⟩
  simp (config := { maxSteps := 4000000 }) only [↓sxw,sxw,tf69,sxu,sxl,sxm,simprocAttr,detA_eqK,h1,h2]
  exact ⟨_,rfl⟩
 | true=>
 have he:callE s at_ l len = seatE l:=by unfold callE; rw [hok,h1,h2]; rfl
 rw [he]
 have hz:zerosL ps.length (rep 101 (.int .i8 0)) = cat kc (List.replicate s.hands.length fun _=>0):=by
  rw [kc_zero,zeros_cat kc,hlen]
 have hfin:∀ (b b1:Nat) (G:List HO),(∀ h ∈ N,h ∈ G) → HO.cells b1 140 [.pointer (some ⟨br,0,none⟩),I at_,I len,.slice (some ⟨b,0,none⟩) ps.length ps.length] ∈ G → HO.row (.slice (some ⟨b,0,none⟩) ps.length ps.length) 253 101 (zerosL ps.length (rep 101 (.int .i8 0))) ∈ G →
   ∃ bc,(some ⟨b1,0,none⟩:Option Addr) = some ⟨bc,0,none⟩ ∧ CaN G (.agg #[.slice a ps.length c,I s.window,I s.duty]) s at_ len bc:=fun b b1 G hG h1 h2=>by
  obtain ⟨hv,ao,co,bs,k1,k2,k3,k4,k5,k6⟩:=hro
  refine ⟨b1,rfl,br,b,⟨hv,ao,co,bs,k1,hG _ k2,hG _ k3,k4,k5,fun i b h hb hh=>hG _ (k6 i b h hb hh)⟩,by rw [hlen]; exact h1,?_⟩
  rw [← hz,hlen]
  exact h2
 refine ⟨?_⟩
 simp (config := { maxSteps := 4000000 }) only [↓sxw,sxw,tf69,sxu,sxl,sxm,simprocAttr,detA_eqK,h1,h2,dn]
 refine ⟨⟨by omega,by omega,by omega,fun b=>⟨fun b1=>?_,?_⟩⟩,?_⟩
 ·refine CallOb.pureH (fun w' hp=>hse _ w' hp) ?_
  rintro r N2 rfl
  refine ⟨?_⟩
  simp (config := { maxSteps := 4000000 }) only [↓sxw,sxw,tf69,sxu,sxl,sxm,simprocAttr]
  exact ⟨_,rfl,fun _=>hfin b b1 _ (fun h hh=>by simp [hh]) (by simp) (by simp)⟩
 ·refine CallOb.pureH (fun w' hp=>hse _ w' hp) ?_
  rintro r N2 rfl
  refine ⟨?_⟩
  simp (config := { maxSteps := 4000000 }) only [↓sxw,sxw,tf69,sxu,sxl,sxm,simprocAttr]
  intro b1
  exact ⟨_,rfl,fun _=>hfin b b1 _ (fun h hh=>by simp [hh]) (by simp) (by simp)⟩
 ·refine CallOb.pureH (fun w' hp=>hse _ w' hp) ?_
  rintro r N2 rfl
  refine ⟨?_⟩
  simp (config := { maxSteps := 4000000 }) only [↓sxw,sxw,tf69,sxu,sxl,sxm,simprocAttr]
  refine ⟨by omega,by omega,by omega,fun b b1=>?_⟩
  exact ⟨_,rfl,fun _=>hfin b b1 _ (fun h hh=>by simp [hh]) (by simp) (by simp)⟩
end Go.Proofs.YtljpknnhimkkjaaGreatDoor

namespace Go.Proofs.YtljpknnhimkkjaaGreatDoor
open Go.RowKit Go.SX
set_option maxRecDepth 10000
set_option maxHeartbeats 4000000
set_option linter.unusedSimpArgs false
set_option linter.unusedVariables false
def KnOk (s:Stn) (call len:Int) (kn:List (Nat → Int)):Prop:=kn.length = s.hands.length ∧ ∀ (k:Nat) (f:Nat → Int) (h:Hnd),kn[k]? = some f → s.hands[k]? = some h → ∀ j,j < 101 → f j = 0 ∨ (f j = 1 ∧ mayP s h (call + (j:Int)) len) ∨ (f j = -1 ∧ ¬ mayP s h (call + (j:Int)) len)
theorem KnOk.zero (s:Stn) (call len:Int):KnOk s call len (List.replicate s.hands.length fun _=>0):=⟨List.length_replicate,fun k f h hf _ j _=>by
 rw [List.getElem?_replicate] at hf
 split at hf
 ·cases hf; exact .inl rfl
 ·cases hf⟩
def knR (bk n:Nat) (kn:List (Nat → Int)):HO:=.row (.slice (some ⟨bk,0,none⟩) n n) 253 101 (cat kc kn)
structure CaOk (w:World) (bc br bk:Nat) (s:Stn) (call len:Int):Prop where
 ne:bc ≠ bk
 nr:br ≠ bk
 hands:∃ hv ps,w.cell? ⟨br,0,none⟩ = some hv ∧ ps.map Prod.fst = s.hands ∧ Sl w hv 5 (cat hdc ps) ∧ (0 < ps.length → ∀ b,hv.ownBlock = some b → b ≠ bk)
 all:∀ w',Keep (fun b=>b = bk) w w' → (∀ (i:Nat) x,[Value.pointer (some ⟨br,0,none⟩),I call,I len,.slice (some ⟨bk,0,none⟩) s.hands.length s.hands.length][i]? = some x → w'.cell? ⟨bc,i,none⟩ = some x) ∧ RoOk w' br s
theorem CaOk.keep {w w':World} {bc br bk:Nat} {s:Stn} {call len:Int} (h:CaOk w bc br bk s call len) (hk:Keep (fun b=>b = bk) w w'):CaOk w' bc br bk s call len:=by
 refine ⟨h.ne,h.nr,?_,fun w2 h2=>h.all w2 ((hk.trans h2).mono fun b hb=>hb.elim id id)⟩
 obtain ⟨hv,ps,h1,h2,h3,h4⟩:=h.hands
 refine ⟨hv,ps,?_,h2,?_,h4⟩
 ·rw [World.cell?_of_block (w:=w) (hk.block br (World.block_lt_of_cell? w ⟨br,0,none⟩ h1) h.nr)]
  exact h1
 ·by_cases h0:0 < ps.length
  ·exact Sl.keep h3 hk fun b hb=>h4 h0 b hb
  ·have:ps = []:=List.eq_nil_of_length_eq_zero (by omega)
   subst this
   obtain ⟨a,l,c,e,hl,_⟩:=h3
   exact ⟨a,l,c,e,hl,fun i x hx=>by simp [cat] at hx⟩
theorem fpsx_knR {bk n:Nat} {kn:List (Nat → Int)} {b:Nat}:fpsx [knR bk n kn] b ↔ b = bk:=by
 constructor
 ·rintro ⟨h,hh,hb⟩
  rw [List.mem_singleton] at hh
  subst hh
  simpa [knR,HO.fpx,Value.ownBlock,eq_comm] using hb
 ·rintro rfl
  exact ⟨_,List.mem_singleton.2 rfl,by simp [knR,HO.fpx,Value.ownBlock]⟩
theorem fps_knR {bk n:Nat} {kn:List (Nat → Int)} (b:Nat) (h:fps [knR bk n kn] b):fpsx [knR bk n kn] b:=by
 obtain ⟨g,hg,hb⟩:=h
 refine ⟨g,hg,?_⟩
 rw [List.mem_singleton] at hg
 subst hg
 simpa [knR,HO.fpx,HO.fp] using hb
theorem ld_rowc {w0:Base} {H:List HO} {a ad:Addr} {n cap e sz o:Nat} {xs:List Value} {v:Value} {K:SV → Prop} (h:HO.row (.slice (some ad) n cap) e sz xs ∈ H) (hv:xs[o]? = some v) (ha:a = ad.add o) (hK:K (.v v)):hold (LdOb w0 H a none K) ⟨0⟩:=by
 subst ha
 exact ld1 (row_rds h) hv hK
def upd (f:Nat → Int) (j:Nat) (x:Int):Nat → Int:=fun i=>if i = j then x else f i
theorem kc_upd (f:Nat → Int) (j:Nat) (hj:j < 101) (x:Int):kc (upd f j x) = (kc f).set j (.int .i8 x):=by
 refine List.ext_getElem? fun i=>?_
 by_cases hi:i < 101
 ·rw [kc_get _ hi,List.getElem?_set]
  unfold upd
  by_cases e:j = i
  ·subst e
   rw [if_pos rfl,if_pos rfl,if_pos (by rw [kc_len]; exact hj)]
  ·rw [if_neg e,if_neg (Ne.symm e),kc_get _ hi]
 ·rw [List.getElem?_eq_none (by rw [kc_len]; omega),List.getElem?_eq_none (by rw [List.length_set,kc_len]; omega)]
theorem KnOk.upd {s:Stn} {call len:Int} {kn:List (Nat → Int)} (hk:KnOk s call len kn) {k j:Nat} {f:Nat → Int} {h:Hnd} (hf:kn[k]? = some f) (hh:s.hands[k]? = some h) (hj:j < 101) {x:Int} (hx:(x = 1 ∧ mayP s h (call + (j:Int)) len) ∨ (x = -1 ∧ ¬ mayP s h (call + (j:Int)) len)):KnOk s call len (kn.set k (upd f j x)):=by
 refine ⟨by rw [List.length_set]; exact hk.1,fun k' f' h' hf' hh' i hi=>?_⟩
 rw [List.getElem?_set] at hf'
 by_cases e:k = k'
 ·subst e
  rw [if_pos rfl] at hf'
  split at hf'
  ·cases hf'
   rw [hh] at hh'
   cases hh'
   unfold Go.Proofs.YtljpknnhimkkjaaGreatDoor.upd
   by_cases e2:i = j
   ·subst e2
    rw [if_pos rfl]
    exact .inr hx
   ·rw [if_neg e2]
    exact hk.2 k f h hf hh i hi
  ·cases hf'
 ·rw [if_neg e] at hf'
  exact hk.2 k' f' h' hf' hh' i hi
theorem knR_set {H A B:List HO} {bk n k j:Nat} {kn:List (Nat → Int)} {f:Nat → Int} {x:Int} {a:Addr} {K:List HO → Prop} (ha:a = ((⟨bk,0,none⟩:Addr).add (k * 101)).add j) (hH:H = A ++ knR bk n kn :: B) (hl:kn.length = n) (hf:kn[k]? = some f) (hj:j < 101) (hK:K (A ++ knR bk n (kn.set k (upd f j x)) :: B)):
  hold (WrOb H a [.int .i8 x] K) ⟨0⟩:=by
 subst ha
 exact wr_f1 (upd f j x) hH kc_len hl hf (kc_upd f j hj x) hj hK
theorem knR_at {w0:Base} {H:List HO} {bk n k j:Nat} {kn:List (Nat → Int)} {f:Nat → Int} {a:Addr} {K:SV → Prop} (ha:a = ((⟨bk,0,none⟩:Addr).add (k * 101)).add j) (hH:knR bk n kn ∈ H) (hf:kn[k]? = some f) (hj:j < 101) (hK:K (.v (.int .i8 (f j)))):hold (LdOb w0 H a none K) ⟨0⟩:=
 ld_rowc hH ((cat_get kc_len hf hj).trans (kc_get f hj)) (by rw [ha,add_add]) hK
open Classical in
theorem serves_fn (w:World) (bc br bk:Nat) (s:Stn) (call len:Int) (hok:s.okB = true) (hc:0 ≤ call ∧ call ≤ 100) (hl:1 ≤ len ∧ len ≤ 40) (hca:CaOk w bc br bk s call len) (kn:List (Nat → Int)) (hrow:HO.ok w (knR bk s.hands.length kn)) (hkn:KnOk s call len kn) (k:Nat) (h:Hnd) (hk:s.hands[k]? = some h) (j:Nat) (hj:j ≤ 100):
  SX.Fn Tryz.prog 161 [.pointer (some ⟨bc,0,none⟩),I k,I (call + j)] w (fpsx [knR bk s.hands.length kn]) fun r N=>∃ kn',KnOk s call len kn' ∧ r = .bool (decide (mayP s h (call + j) len)) ∧ knR bk s.hands.length kn' ∈ N:=by
 have hob:=okB_of hok
 have hkl:=(List.getElem?_eq_some_iff.1 hk).1
 have hf:∃ f,kn[k]? = some f:=⟨_,List.getElem?_eq_getElem (by have:=hkn.1; omega)⟩
 obtain ⟨f,hf⟩:=hf
 have hfj:=hkn.2 k f h hf hk j (by omega)
 have hX:∀ b,b ≠ bk → ¬ fpsx [knR bk s.hands.length kn] b:=fun b hb hx=>hb (fpsx_knR.1 hx)
 have hcell:=(hca.all w (Keep.refl _ w)).1
 have c0:=hcell 0 _ rfl
 have c1:=hcell 1 _ rfl
 have c2:=hcell 2 _ rfl
 have c3:=hcell 3 _ rfl
 have e1:wrK (call + (j:Int) - call) = (j:Int):=(wrap_id (by omega)).trans (by omega)
 have hmay:=fun (H:List HO) w' (hp:Hp ⟨w,fpsx [knR bk s.hands.length kn]⟩ H w')=>may_fn w' br s (hca.all w' (hp.ext.mono fun b hb=>fpsx_knR.1 hb)).2 hob.2.1 k h hk (by omega) (call + j) len (by omega) (by omega) (by omega)
 refine walk [] [] (det0K_ok _ _) Tryz.func161 rfl Tryz.ntmps161 res161 (by kernel_rfl) (H0:=[knR bk s.hands.length kn]) ⟨fun g hg=>by rw [List.mem_singleton] at hg; subst hg; exact hrow,fun g hg b hb=>⟨g,hg,by rw [List.mem_singleton] at hg; subst hg; exact hb⟩,List.pairwise_singleton _ _⟩ ?_
 have ha:((⟨bk,0,none⟩:Addr).add (k * 101)).add (j * 1) = ((⟨bk,0,none⟩:Addr).add (k * 101)).add j:=by rw [Nat.mul_one]
 have k1:((j:Int) < 101) = True:=eq_true (by omega)
 rcases hfj with hf0 | ⟨hf1,hm⟩ | ⟨hf1,hm⟩
 case inr.inl=>
  have q0:(f j = 0) = False:=eq_false (by omega)
  have q1:(f j > 0) = True:=eq_true (by omega)
  rw [@decide_eq_true _ (Classical.propDecidable _) hm]
  simp (config := { maxSteps := 4000000 }) only [↓sxw,sxw,tf161,sxu,sxl,sxm,simprocAttr]
  refine ld_olda (by simp [add_block]) c3 (hX _ hca.ne) ?_
  simp (config := { maxSteps := 4000000 }) only [↓sxw,sxw,tf161,sxu,sxl,sxm,simprocAttr]
  refine ld_olda (by simp [add_block]) c1 (hX _ hca.ne) ?_
  simp (config := { maxSteps := 4000000 }) only [↓sxw,sxw,tf161,sxu,sxl,sxm,simprocAttr,e1]
  refine ⟨by omega,by omega,_,rfl,by omega,by omega,?_⟩
  refine knR_at ha List.mem_cons_self hf (by omega) ?_
  simp (config := { maxSteps := 4000000 }) only [↓sxw,sxw,tf161,sxu,sxl,sxm,simprocAttr,q0]
  refine knR_at ha List.mem_cons_self hf (by omega) ?_
  simp (config := { maxSteps := 4000000 }) only [↓sxw,sxw,tf161,sxu,sxl,sxm,simprocAttr,q1]
  exact ⟨kn,hkn,List.mem_cons_self⟩
 case inr.inr=>
  have q0:(f j = 0) = False:=eq_false (by omega)
  have q1:(f j > 0) = False:=eq_false (by omega)
  rw [@decide_eq_false _ (Classical.propDecidable _) hm]
  simp (config := { maxSteps := 4000000 }) only [↓sxw,sxw,tf161,sxu,sxl,sxm,simprocAttr]
  refine ld_olda (by simp [add_block]) c3 (hX _ hca.ne) ?_
  simp (config := { maxSteps := 4000000 }) only [↓sxw,sxw,tf161,sxu,sxl,sxm,simprocAttr]
  refine ld_olda (by simp [add_block]) c1 (hX _ hca.ne) ?_
  simp (config := { maxSteps := 4000000 }) only [↓sxw,sxw,tf161,sxu,sxl,sxm,simprocAttr,e1]
  refine ⟨by omega,by omega,_,rfl,by omega,by omega,?_⟩
  refine knR_at ha List.mem_cons_self hf (by omega) ?_
  simp (config := { maxSteps := 4000000 }) only [↓sxw,sxw,tf161,sxu,sxl,sxm,simprocAttr,q0]
  refine knR_at ha List.mem_cons_self hf (by omega) ?_
  simp (config := { maxSteps := 4000000 }) only [↓sxw,sxw,tf161,sxu,sxl,sxm,simprocAttr,q1]
  exact ⟨kn,hkn,List.mem_cons_self⟩
 have q0:(f j = 0) = True:=eq_true hf0
 have hf':(kn.set k (upd f j (-1)))[k]? = some (upd f j (-1)):=List.getElem?_set_self (by have:=hkn.1; omega)
 have hset:∀ x,upd (upd f j (-1)) j x = upd f j x:=fun x=>by
  funext i
  unfold upd
  split <;> rfl
 have hup:∀ x,upd f j x j = x:=fun x=>by unfold upd; rw [if_pos rfl]
 have hf2:(kn.set k (upd f j 1))[k]? = some (upd f j 1):=List.getElem?_set_self (by have:=hkn.1; omega)
 by_cases hm:mayP s h (call + (j:Int)) len
 ·have hkn':=hkn.upd hf hk (by omega) (.inl ⟨rfl,hm⟩)
  rw [@decide_eq_true _ (Classical.propDecidable _) hm] at hmay ⊢
  simp (config := { maxSteps := 4000000 }) only [↓sxw,sxw,tf161,sxu,sxl,sxm,simprocAttr]
  refine ld_olda (by simp [add_block]) c3 (hX _ hca.ne) ?_
  simp (config := { maxSteps := 4000000 }) only [↓sxw,sxw,tf161,sxu,sxl,sxm,simprocAttr]
  refine ld_olda (by simp [add_block]) c1 (hX _ hca.ne) ?_
  simp (config := { maxSteps := 4000000 }) only [↓sxw,sxw,tf161,sxu,sxl,sxm,simprocAttr,e1]
  refine ⟨by omega,by omega,_,rfl,by omega,by omega,?_⟩
  refine knR_at ha List.mem_cons_self hf (by omega) ?_
  simp (config := { maxSteps := 4000000 }) only [↓sxw,sxw,tf161,sxu,sxl,sxm,simprocAttr,q0]
  refine knR_set (A:=[]) ha rfl hkn.1 hf (by omega) ?_
  simp (config := { maxSteps := 4000000 }) only [↓sxw,sxw,tf161,sxu,sxl,sxm,simprocAttr]
  refine ld_olda (by simp [add_block]) c0 (hX _ hca.ne) ?_
  simp (config := { maxSteps := 4000000 }) only [↓sxw,sxw,tf161,sxu,sxl,sxm,simprocAttr]
  refine ld_olda (by simp [add_block]) c2 (hX _ hca.ne) ?_
  simp (config := { maxSteps := 4000000 }) only [↓sxw,sxw,tf161,sxu,sxl,sxm,simprocAttr,det0K]
  refine CallOb.pureH (fun w' hp=>hmay _ w' hp) ?_
  rintro r N rfl
  refine ⟨?_⟩
  simp (config := { maxSteps := 4000000 }) only [↓sxw,sxw,tf161,sxu,sxl,sxm,simprocAttr]
  refine knR_set (A:=N) ha rfl (by rw [List.length_set]; exact hkn.1) hf' (by omega) ?_
  rw [hset,List.set_set]
  simp (config := { maxSteps := 4000000 }) only [↓sxw,sxw,tf161,sxu,sxl,sxm,simprocAttr]
  refine knR_at (n:=s.hands.length) ha (by simp) hf2 (by omega) ?_
  rw [hup]
  simp (config := { maxSteps := 4000000 }) only [↓sxw,sxw,tf161,sxu,sxl,sxm,simprocAttr]
  exact ⟨_,hkn',by simp⟩
 ·have hkn':=hkn.upd hf hk (by omega) (.inr ⟨rfl,hm⟩)
  rw [@decide_eq_false _ (Classical.propDecidable _) hm] at hmay ⊢
  simp (config := { maxSteps := 4000000 }) only [↓sxw,sxw,tf161,sxu,sxl,sxm,simprocAttr]
  refine ld_olda (by simp [add_block]) c3 (hX _ hca.ne) ?_
  simp (config := { maxSteps := 4000000 }) only [↓sxw,sxw,tf161,sxu,sxl,sxm,simprocAttr]
  refine ld_olda (by simp [add_block]) c1 (hX _ hca.ne) ?_
  simp (config := { maxSteps := 4000000 }) only [↓sxw,sxw,tf161,sxu,sxl,sxm,simprocAttr,e1]
  refine ⟨by omega,by omega,_,rfl,by omega,by omega,?_⟩
  refine knR_at ha List.mem_cons_self hf (by omega) ?_
  simp (config := { maxSteps := 4000000 }) only [↓sxw,sxw,tf161,sxu,sxl,sxm,simprocAttr,q0]
  refine knR_set (A:=[]) ha rfl hkn.1 hf (by omega) ?_
  simp (config := { maxSteps := 4000000 }) only [↓sxw,sxw,tf161,sxu,sxl,sxm,simprocAttr]
  refine ld_olda (by simp [add_block]) c0 (hX _ hca.ne) ?_
  simp (config := { maxSteps := 4000000 }) only [↓sxw,sxw,tf161,sxu,sxl,sxm,simprocAttr]
  refine ld_olda (by simp [add_block]) c2 (hX _ hca.ne) ?_
  simp (config := { maxSteps := 4000000 }) only [↓sxw,sxw,tf161,sxu,sxl,sxm,simprocAttr,det0K]
  refine CallOb.pureH (fun w' hp=>hmay _ w' hp) ?_
  rintro r N rfl
  refine ⟨?_⟩
  simp (config := { maxSteps := 4000000 }) only [↓sxw,sxw,tf161,sxu,sxl,sxm,simprocAttr]
  refine knR_at (n:=s.hands.length) ha (by simp) hf' (by omega) ?_
  rw [hup]
  simp (config := { maxSteps := 4000000 }) only [↓sxw,sxw,tf161,sxu,sxl,sxm,simprocAttr]
  exact ⟨_,hkn',by simp⟩
end Go.Proofs.YtljpknnhimkkjaaGreatDoor

namespace Go.Proofs.YtljpknnhimkkjaaGreatDoor
open Go.RowKit Go.SX
set_option maxRecDepth 10000
set_option maxHeartbeats 4000000
set_option linter.unusedSimpArgs false
set_option linter.unusedVariables false
open Classical in
noncomputable def canBK (s:Stn) (call len tick:Int) (h:Hnd):Bool:=decide (h.ans = 1) && decide (call + h.high ≤ tick) && decide (mayP s h tick len)
noncomputable def atL (s:Stn) (call len tick:Int):List Bool:=s.hands.map (canBK s call len tick)
open Classical in
theorem at_fn (w:World) (bc br bk:Nat) (s:Stn) (call len:Int) (hok:s.okB = true) (hc:0 ≤ call ∧ call ≤ 100) (hl:1 ≤ len ∧ len ≤ 40) (hca:CaOk w bc br bk s call len) (kn:List (Nat → Int)) (hrow:HO.ok w (knR bk s.hands.length kn)) (hkn:KnOk s call len kn) (j:Nat) (hj:j ≤ 100):
  SX.Fn Tryz.prog 129 [.pointer (some ⟨bc,0,none⟩),I (call + j)] w (fpsx [knR bk s.hands.length kn]) fun r N=>∃ kn',KnOk s call len kn' ∧ knR bk s.hands.length kn' ∈ N ∧ Got r 4 1 b1 (atL s call len (call + j)) N:=by
 have hob:=okB_of hok
 have hX:∀ b,b ≠ bk → ¬ fpsx [knR bk s.hands.length kn] b:=fun b hb hx=>hb (fpsx_knR.1 hx)
 have hcell:=(hca.all w (Keep.refl _ w)).1
 have c0:=hcell 0 _ rfl
 have c1:=hcell 1 _ rfl
 obtain ⟨hv,ps,r0,hps,hsl,hne⟩:=hca.hands
 have hlen:s.hands.length = ps.length:=by rw [← hps,List.length_map]
 obtain ⟨a,n,c,rfl⟩:=hsl.shape
 have hn:=hsl.le hdc_len (by omega)
 subst hn
 have hAl:(atL s call len (call + j)).length = ps.length:=by unfold atL; rw [List.length_map,hlen]
 have hAg:∀ (k:Nat) (h:Hnd),s.hands[k]? = some h → (atL s call len (call + j))[k]? = some (canBK s call len (call + j) h):=fun k h hk=>by
  unfold atL
  rw [List.getElem?_map,hk]
  try rfl
 refine walk [] [(5,(ones [0,1,2,3,4,5,6,7,8,9,10,11,12,13,14,15,16,17,18,19] (.mu 20 (ones [21,22,23,24] .fin))))] (det0K_ok _ _) Tryz.func129 rfl Tryz.ntmps129 res129 (by kernel_rfl) (H0:=[knR bk s.hands.length kn]) ⟨fun g hg=>by rw [List.mem_singleton] at hg; subst hg; exact hrow,fun g hg b hb=>⟨g,hg,by rw [List.mem_singleton] at hg; subst hg; exact hb⟩,List.pairwise_singleton _ _⟩ ?_
 simp (config := { maxSteps := 4000000 }) only [↓sxw,sxw,tf129,sxu,sxl,sxm,simprocAttr]
 refine ld_olda (by simp [add_block]) c0 (hX _ hca.ne) ?_
 simp (config := { maxSteps := 4000000 }) only [↓sxw,sxw,tf129,sxu,sxl,sxm,simprocAttr]
 refine ld_olda (by simp [add_block]) r0 (hX _ hca.nr) ?_
 simp (config := { maxSteps := 4000000 }) only [↓sxw,sxw,tf129,sxu,sxl,sxm,simprocAttr]
 generalize hRB:(fun (ad:Option Addr) (n cp:Nat) (l:List Bool)=>HO.row (.slice ad n cp) 4 1 (bools l)) = RB
 have hRe:∀ ad n cp l,HO.row (.slice ad n cp) 4 1 (bools l) = RB ad n cp l:=fun ad n cp l=>by rw [← hRB]
 generalize atL s call len (call + j) = AL at hAl hAg
 refine loop_constH [RB none 0 0 (AL.take 0),knR bk s.hands.length kn] (by rw [← hRe]; exact HImp.nilRow _ _ _ _) [(5,7),(17,46)] (fun q:Nat × Option Addr × Nat=>[(17,I q.1),(5,.slice q.2.1 q.1 q.2.2)])
  (fun q H1=>q.1 ≤ ps.length ∧ (q.2.1 = none → q.1 = 0) ∧ ∃ kn',KnOk s call len kn' ∧ H1 = [RB q.2.1 q.1 q.2.2 (AL.take q.1),knR bk s.hands.length kn']) (fun q=>ps.length - q.1) (0,none,0) ?_ ⟨Nat.zero_le _,fun _=>rfl,kn,hkn,rfl⟩ ?_
 ·simp (config := { maxSteps := 4000000 }) only [↓sxw,sxw,tf129,sxu,sxl,sxm,simprocAttr]
  try simp
 rintro ⟨k,ao,co⟩ H1 g1 ⟨hk,hnil,kn',hkn',rfl⟩
 simp only [] at hk hnil
 have htl:(AL.take k).length = k:=by rw [List.length_take]; omega
 by_cases hkn0:k = ps.length
 ·have e7:((k:Int) < (ps.length:Int)) = False:=eq_false (by omega)
  refine ⟨?_⟩
  simp (config := { maxSteps := 4000000 }) only [↓sxw,sxw,tf129,sxu,sxl,sxm,simprocAttr,e7]
  refine ⟨kn',hkn',by simp,?_⟩
  rw [← hRe,List.take_of_length_le (by omega)]
  exact Got.row (by omega) List.mem_cons_self (fun h=>List.eq_nil_of_length_eq_zero (by have:=hnil h; omega))
 have e7:((k:Int) < (ps.length:Int)) = True:=eq_true (by omega)
 have e8:wrK (k + 1) = ((k + 1:Nat):Int):=(wrap_id (by omega)).trans (by omega)
 have hkl:k < ps.length:=by omega
 have hr:∀ G,Rdv ⟨w,fpsx [knR bk s.hands.length kn]⟩ G (.slice a ps.length c) 5 (cat hdc ps):=fun G=>hsl.rdv (fun b hb=>hX b (hne (by omega) b hb)) G
 have hu:=List.getElem?_eq_getElem hkl
 have hhk:s.hands[k]? = some (ps[k]).1:=by rw [← hps,List.getElem?_map,hu]; rfl
 generalize ps[k] = p at hu hhk
 have hAk:=hAg k p.1 hhk
 have hhb:=handB_of (hob.2.2.2 _ (List.mem_of_getElem? hhk))
 have hl1:(lgv p).oneCell' = true:=rfl
 have happ:∀ q,q = canBK s call len (call + j) p.1 → AL.take k ++ [q] = AL.take (k + 1):=fun q hq=>by
  rw [List.take_add_one,hAk,hq]
  try rfl
 have f1:IntKind.i64.wrap (call + p.1.high) = call + p.1.high:=wrap_id (by omega)
 by_cases k1:p.1.ans = 1
 case neg=>
  have q1:(p.1.ans = 1) = False:=eq_false k1
  have hq:=happ false (by unfold canBK; simp [k1])
  refine ⟨?_⟩
  simp (config := { maxSteps := 4000000 }) only [↓sxw,sxw,tf129,sxu,sxl,sxm,simprocAttr,e7]
  refine amid (at_n (hr _) hdc_len (by omega) hu fun ad=>?_)
  unfold hdc
  simp (config := { maxSteps := 4000000 }) only [↓sxw,sxw,tf129,sxu,sxl,sxm,simprocAttr,hl1,q1]
  intro b2
  rw [← hRe]
  refine app_one (l:=AL.take k) false (HImp.refl _ _) b1_len b1_one (by rw [htl]; omega) fun ad2 c2=>?_
  simp (config := { maxSteps := 4000000 }) only [↓sxw,sxw,tf129,sxu,sxl,sxm,simprocAttr,e8]
  rw [hq,htl,hRe]
  exact ⟨(k + 1,some ad2,c2),_,⟨rfl,rfl⟩,HImp.refl _ _,⟨by simp only []; omega,fun h=>(by cases h),kn',hkn',rfl⟩,by simp only []; omega⟩
 have q1:(p.1.ans = 1) = True:=eq_true k1
 by_cases k2:call + p.1.high ≤ call + (j:Int)
 case neg=>
  have q2:(call + p.1.high ≤ call + (j:Int)) = False:=eq_false k2
  have hq:=happ false (by unfold canBK; simp [k2])
  refine ⟨?_⟩
  simp (config := { maxSteps := 4000000 }) only [↓sxw,sxw,tf129,sxu,sxl,sxm,simprocAttr,e7]
  refine amid (at_n (hr _) hdc_len (by omega) hu fun ad=>?_)
  unfold hdc
  simp (config := { maxSteps := 4000000 }) only [↓sxw,sxw,tf129,sxu,sxl,sxm,simprocAttr,hl1,q1]
  refine ld_olda (by simp [add_block]) c1 (hX _ hca.ne) ?_
  simp (config := { maxSteps := 4000000 }) only [↓sxw,sxw,tf129,sxu,sxl,sxm,simprocAttr,f1,q2]
  intro b2
  rw [← hRe]
  refine app_one (l:=AL.take k) false (HImp.refl _ _) b1_len b1_one (by rw [htl]; omega) fun ad2 c2=>?_
  simp (config := { maxSteps := 4000000 }) only [↓sxw,sxw,tf129,sxu,sxl,sxm,simprocAttr,e8]
  rw [hq,htl,hRe]
  exact ⟨(k + 1,some ad2,c2),_,⟨rfl,rfl⟩,HImp.refl _ _,⟨by simp only []; omega,fun h=>(by cases h),kn',hkn',rfl⟩,by simp only []; omega⟩
 have q2:(call + p.1.high ≤ call + (j:Int)) = True:=eq_true k2
 refine ⟨?_⟩
 simp (config := { maxSteps := 4000000 }) only [↓sxw,sxw,tf129,sxu,sxl,sxm,simprocAttr,e7]
 refine amid (at_n (hr _) hdc_len (by omega) hu fun ad=>?_)
 unfold hdc
 simp (config := { maxSteps := 4000000 }) only [↓sxw,sxw,tf129,sxu,sxl,sxm,simprocAttr,hl1,q1]
 refine ld_olda (by simp [add_block]) c1 (hX _ hca.ne) ?_
 simp (config := { maxSteps := 4000000 }) only [↓sxw,sxw,tf129,sxu,sxl,sxm,simprocAttr,f1,q2,det0K]
 refine CallOb.mutH (A:=[knR bk s.hands.length kn']) (B:=[RB ao k co (AL.take k)]) (HImp.swap _ _ _ _) fps_knR (fun w' hp=>?_) ?_ (Post:=fun r N=>∃ kn',KnOk s call len kn' ∧ r = .bool (decide (mayP s p.1 (call + j) len)) ∧ knR bk s.hands.length kn' ∈ N)
 ·have hca':=hca.keep (hp.ext.mono fun b hb=>fpsx_knR.1 hb)
  exact serves_fn w' bc br bk s call len hok hc hl hca' kn' (hp.ok _ List.mem_cons_self) hkn' k p.1 hhk j hj
 rintro r N ⟨kn2,hkn2,rfl,hm⟩
 have hq:=happ (decide (mayP s p.1 (call + j) len)) (by unfold canBK; simp [k1,k2])
 generalize decide (mayP s p.1 (call + j) len) = bq at hq
 refine ⟨?_⟩
 simp (config := { maxSteps := 4000000 }) only [↓sxw,sxw,tf129,sxu,sxl,sxm,simprocAttr]
 intro b2
 rw [← hRe]
 refine app_one (l:=AL.take k) bq (HImp.perm (List.perm_append_comm (l₁:=N))) b1_len b1_one (by rw [htl]; omega) fun ad2 c2=>?_
 simp (config := { maxSteps := 4000000 }) only [↓sxw,sxw,tf129,sxu,sxl,sxm,simprocAttr,e8]
 rw [hq,htl,hRe]
 exact ⟨(k + 1,some ad2,c2),_,⟨rfl,rfl⟩,HImp.sub (.cons_cons _ (List.singleton_sublist.2 (by simp [hm]))),⟨by simp only []; omega,fun h=>(by cases h),kn2,hkn2,rfl⟩,by simp only []; omega⟩
end Go.Proofs.YtljpknnhimkkjaaGreatDoor

namespace Go.Proofs.YtljpknnhimkkjaaGreatDoor
open Go.RowKit Go.SX
set_option maxRecDepth 10000
set_option maxHeartbeats 4000000
set_option linter.unusedSimpArgs false
set_option linter.unusedVariables false
def fillG (ok:Nat → Nat → Bool) (n:Nat):Nat → List Int → Option (List Int)
 | 0,who=>some who
 | r + 1,who=>(List.range n).findSome? fun i=>if ok who.length i && !decide ((i:Int) ∈ who) then fillG ok n r (who ++ [(i:Int)]) else none
def hasB (sk seat:Int):Bool:=decide (bitS .and .i64 sk seat = seat)
def okS (cans:List Bool) (hands:List Hnd) (seats:List Int) (p i:Nat):Bool:=cans.getD i false && hasB ((hands.map (·.skills)).getD i 0) (seats.getD p 0)
def HaOk (w:World) (bc br:Nat) (hands:List Hnd):Prop:=w.cell? ⟨bc,0,none⟩ = some (.pointer (some ⟨br,0,none⟩)) ∧ ∃ hv ps,w.cell? ⟨br,0,none⟩ = some hv ∧ ps.map Prod.fst = hands ∧ Sl w hv 5 (cat hdc ps)
theorem HaOk.hp {w0:World} {H:List HO} {bc br:Nat} {hands:List Hnd} (h:HaOk w0 bc br hands) {w:World} (hp:Hp ⟨w0,fun _=>False⟩ H w):HaOk w bc br hands:=by
 obtain ⟨h1,hv,ps,h2,h3,h4⟩:=h
 refine ⟨?_,hv,ps,?_,h3,Sl.hp (w0:=⟨w0,fun _=>False⟩) h4 (fun _ _=>id) hp⟩
 ·rw [World.cell?_of_block (w:=w0) (hp.ext.block bc (World.block_lt_of_cell? w0 ⟨bc,0,none⟩ h1) id)]
  exact h1
 ·rw [World.cell?_of_block (w:=w0) (hp.ext.block br (World.block_lt_of_cell? w0 ⟨br,0,none⟩ h2) id)]
  exact h2
def SeatP (vwho:Value) (who:List Int) (res:Option (List Int)) (r:Value) (N:List HO):Prop:=(res = none ∧ r = .tuple #[.slice none 0 0,.bool false]) ∨ ∃ l x,res = some l ∧ r = .tuple #[x,.bool true] ∧ ((x = vwho ∧ l = who) ∨ Got x 3 1 i1 l N)
theorem findSome_drop {α β:Type} {l:List α} {k:Nat} {a:α} {g:α → Option β} (h:l[k]? = some a) (hn:g a = none):(l.drop k).findSome? g = (l.drop (k + 1)).findSome? g:=by
 have hk:=(List.getElem?_eq_some_iff.1 h).1
 rw [List.drop_eq_getElem_cons hk,List.findSome?_cons,(List.getElem?_eq_some_iff.1 h).2,hn]
theorem findSome_hit {α β:Type} {l:List α} {k:Nat} {a:α} {b:β} {g:α → Option β} (h:l[k]? = some a) (hn:g a = some b):(l.drop k).findSome? g = some b:=by
 have hk:=(List.getElem?_eq_some_iff.1 h).1
 rw [List.drop_eq_getElem_cons hk,List.findSome?_cons,(List.getElem?_eq_some_iff.1 h).2,hn]
theorem Sl.full {w:World} {ad:Addr} {n c:Nat} {xs:List Value} (h:Sl w (.slice (some ad) n c) 1 xs):Sl w (.slice (some (if n = 0 then ad else ad.add 0)) n n) 1 xs:=by
 have hl:=h.len
 split
 ·rename_i h0
  subst h0
  have:xs = []:=List.eq_nil_of_length_eq_zero (by omega)
  subst this
  exact ⟨_,_,_,rfl,rfl,fun i x hx=>by simp at hx⟩
 ·have:=Sl.pre (m:=n) (c:=n) h (Nat.le_refl _)
  rwa [List.take_of_length_le (by omega)] at this
theorem row_cap {w0:Base} {H:List HO} {ad:Option Addr} {n c e sz:Nat} {xs:List Value} (h:HO.row (.slice ad n c) e sz xs ∈ H) {w:World} (hp:Hp w0 H w):n ≤ c:=by
 rcases hp.ok _ h with ⟨h1,_⟩ | ⟨b,off,len,cap,arr,hv,_,_,hlc,_⟩
 ·simp only [Value.slice.injEq] at h1
  omega
 ·simp only [Value.slice.injEq] at hv
  omega
theorem seat_fn (bc br:Nat) (hands:List Hnd) (hnl:hands.length ≤ 10) (cans:List Bool) (hcl:cans.length = hands.length) (seats:List Int) (hsl5:seats.length ≤ 1000):∀ (r:Nat) (w:World) (hha:HaOk w bc br hands) (vc vs vw:Value) (hvc:Sl w vc 1 (bools cans)) (hvs:Sl w vs 1 (ints seats)) (who:List Int) (hvw:Sl w vw 1 (ints who)) (hcw:∀ a n c,vw = .slice a n c → n ≤ c) (hwl:who.length + r = seats.length),
  SX.Fn Tryz.prog 128 [.pointer (some ⟨bc,0,none⟩),vc,vs,vw] w (fun _=>False) (SeatP vw who (fillG (okS cans hands seats) hands.length r who)):=by
 intro r
 induction r with
 | zero=>
  intro w hha vc vs vw hvc hvs who hvw hcw hwl
  obtain ⟨asx,ns,cs,rfl⟩:=hvs.shape
  obtain ⟨aw,nw,cw,rfl⟩:=hvw.shape
  have hns:=hvs.le i1_len (by omega)
  have hnw:=hvw.le i1_len (by omega)
  subst hns hnw
  have e1:((who.length:Int) = (seats.length:Int)) = True:=eq_true (by omega)
  refine walk [] [] (det0K_ok _ _) Tryz.func128 rfl Tryz.ntmps128 res128 (by kernel_rfl) no_facts ?_
  simp (config := { maxSteps := 4000000 }) only [↓sxw,sxw,tf128,sxu,sxl,sxm,Int.reduceBEq,Int.reduceBNe,Int.reduceLT,Int.reduceLE,Int.reduceEq,Int.reduceGT,Int.reduceGE,Int.reduceToNat,↓reduceIte,List.reduceReplicate,Nat.reduceAdd,Nat.reduceSub,Nat.reduceMul,Nat.reduceLT,Nat.reduceLeDiff,Nat.reduceBEq,Nat.reduceEqDiff,e1]
  exact .inr ⟨who,_,rfl,rfl,.inl ⟨rfl,rfl⟩⟩
 | succ r ih=>
 intro w hha vc vs vw hvc hvs who hvw hcw hwl
 have hha0:=hha
 have hvc0:=hvc
 have hvs0:=hvs
 have hvw0:=hvw
 obtain ⟨c0,hv,ps,r0,hps,hsl⟩:=hha
 have hlen:hands.length = ps.length:=by rw [← hps,List.length_map]
 obtain ⟨a,n,c,rfl⟩:=hsl.shape
 obtain ⟨ac,nc,cc,rfl⟩:=hvc.shape
 obtain ⟨asx,ns,cs,rfl⟩:=hvs.shape
 obtain ⟨aw,nw,cw,rfl⟩:=hvw.shape
 have hn:=hsl.le hdc_len (by omega)
 have hnc:=hvc.le b1_len (by omega)
 have hns:=hvs.le i1_len (by omega)
 have hnw:=hvw.le i1_len (by omega)
 subst hn hnc hns hnw
 have hr:=hsl.rd0
 have hrc:=hvc.rd0
 have hrs:=hvs.rd0
 have e1:((who.length:Int) = (seats.length:Int)) = False:=eq_false (by omega)
 have e0:((who.length:Int) < (seats.length:Int)) = True:=eq_true (by omega)
 have hus:seats[who.length]? = some (seats.getD who.length 0):=getD_atK (by omega) 0
 have hF:fillG (okS cans hands seats) hands.length (r + 1) who = (List.range hands.length).findSome? fun i=>if okS cans hands seats who.length i && !decide ((i:Int) ∈ who) then fillG (okS cans hands seats) hands.length r (who ++ [(i:Int)]) else none:=rfl
 have hst:∃ st,seats.getD who.length 0 = st:=⟨_,rfl⟩
 obtain ⟨st,hst⟩:=hst
 rw [hst] at hus
 generalize hG:(fun i:Nat=>if okS cans hands seats who.length i && !decide ((i:Int) ∈ who) then fillG (okS cans hands seats) hands.length r (who ++ [(i:Int)]) else none) = G at hF
 have hGe:∀ i:Nat,G i = if okS cans hands seats who.length i && !decide ((i:Int) ∈ who) then fillG (okS cans hands seats) hands.length r (who ++ [(i:Int)]) else none:=fun i=>by rw [← hG]
 have hcon:=fun (H:List HO) w' (hp:Hp ⟨w,fun _=>False⟩ H w') (x:Int)=>contains1_fn w' _ who x (hvw0.hp (fun _ _=>id) hp) (by omega)
 refine walk [] [] (det0K_ok _ _) Tryz.func128 rfl Tryz.ntmps128 res128 (by kernel_rfl) no_facts ?_
 simp (config := { maxSteps := 4000000 }) only [↓sxw,sxw,tf128,sxu,sxl,sxm,Int.reduceBEq,Int.reduceBNe,Int.reduceLT,Int.reduceLE,Int.reduceEq,Int.reduceGT,Int.reduceGE,Int.reduceToNat,↓reduceIte,List.reduceReplicate,Nat.reduceAdd,Nat.reduceSub,Nat.reduceMul,Nat.reduceLT,Nat.reduceLeDiff,Nat.reduceBEq,Nat.reduceEqDiff,e1]
 refine ld_olda (by simp [add_block]) c0 id ?_
 simp (config := { maxSteps := 4000000 }) only [↓sxw,sxw,tf128,sxu,sxl,sxm,Int.reduceBEq,Int.reduceBNe,Int.reduceLT,Int.reduceLE,Int.reduceEq,Int.reduceGT,Int.reduceGE,Int.reduceToNat,↓reduceIte,List.reduceReplicate,Nat.reduceAdd,Nat.reduceSub,Nat.reduceMul,Nat.reduceLT,Nat.reduceLeDiff,Nat.reduceBEq,Nat.reduceEqDiff]
 refine ld_olda (by simp [add_block]) r0 id ?_
 simp (config := { maxSteps := 4000000 }) only [↓sxw,sxw,tf128,sxu,sxl,sxm,Int.reduceBEq,Int.reduceBNe,Int.reduceLT,Int.reduceLE,Int.reduceEq,Int.reduceGT,Int.reduceGE,Int.reduceToNat,↓reduceIte,List.reduceReplicate,Nat.reduceAdd,Nat.reduceSub,Nat.reduceMul,Nat.reduceLT,Nat.reduceLeDiff,Nat.reduceBEq,Nat.reduceEqDiff]
 refine loop_constH [] (HImp.nil _ _) [(8,14),(30,76)] (fun i:Nat=>[(30,I i)]) (fun i H1=>i ≤ ps.length ∧ H1 = [] ∧ fillG (okS cans hands seats) hands.length (r + 1) who = ((List.range hands.length).drop i).findSome? G) (fun i=>ps.length - i) 0 ?_ ⟨Nat.zero_le _,rfl,hF⟩ ?_
 ·simp (config := { maxSteps := 4000000 }) only [↓sxw,sxw,tf128,sxu,sxl,sxm,Int.reduceBEq,Int.reduceBNe,Int.reduceLT,Int.reduceLE,Int.reduceEq,Int.reduceGT,Int.reduceGE,Int.reduceToNat,↓reduceIte,List.reduceReplicate,Nat.reduceAdd,Nat.reduceSub,Nat.reduceMul,Nat.reduceLT,Nat.reduceLeDiff,Nat.reduceBEq,Nat.reduceEqDiff]
  try simp
 rintro i H1 g1 ⟨hi,rfl,hinv⟩
 by_cases hin:i = ps.length
 ·have e7:((i:Int) < (ps.length:Int)) = False:=eq_false (by omega)
  rw [List.drop_of_length_le (by rw [List.length_range]; omega)] at hinv
  rw [hinv]
  refine ⟨?_⟩
  simp (config := { maxSteps := 4000000 }) only [↓sxw,sxw,tf128,sxu,sxl,sxm,Int.reduceBEq,Int.reduceBNe,Int.reduceLT,Int.reduceLE,Int.reduceEq,Int.reduceGT,Int.reduceGE,Int.reduceToNat,↓reduceIte,List.reduceReplicate,Nat.reduceAdd,Nat.reduceSub,Nat.reduceMul,Nat.reduceLT,Nat.reduceLeDiff,Nat.reduceBEq,Nat.reduceEqDiff,e7]
  exact .inl ⟨rfl,rfl⟩
 have e7:((i:Int) < (ps.length:Int)) = True:=eq_true (by omega)
 have e8:wrK (i + 1) = ((i + 1:Nat):Int):=(wrap_id (by omega)).trans (by omega)
 have hil:i < ps.length:=by omega
 have hu:=List.getElem?_eq_getElem hil
 have hhk:hands[i]? = some (ps[i]).1:=by rw [← hps,List.getElem?_map,hu]; rfl
 generalize ps[i] = p at hu hhk
 have hl1:(lgv p).oneCell' = true:=rfl
 have hri:(List.range hands.length)[i]? = some i:=List.getElem?_range (by omega)
 have hsk:(hands.map (·.skills)).getD i 0 = p.1.skills:=by
  rw [List.getD_eq_getElem?_getD,List.getElem?_map,hhk]
  try rfl
 have hci:cans[i]? = some (cans.getD i false):=getD_atK (by omega) false
 have hgi:=hGe i
 unfold okS at hgi
 rw [hsk,hst] at hgi
 have hq:∃ q,cans.getD i false = q:=⟨_,rfl⟩
 obtain ⟨q,hq⟩:=hq
 rw [hq] at hci hgi
 cases q with
 | false=>
  have hgn:G i = none:=by rw [hgi]; simp
  rw [findSome_drop hri hgn] at hinv
  refine ⟨?_⟩
  simp (config := { maxSteps := 4000000 }) only [↓sxw,sxw,tf128,sxu,sxl,sxm,Int.reduceBEq,Int.reduceBNe,Int.reduceLT,Int.reduceLE,Int.reduceEq,Int.reduceGT,Int.reduceGE,Int.reduceToNat,↓reduceIte,List.reduceReplicate,Nat.reduceAdd,Nat.reduceSub,Nat.reduceMul,Nat.reduceLT,Nat.reduceLeDiff,Nat.reduceBEq,Nat.reduceEqDiff,e7]
  refine amid (at_n (hr _) hdc_len (by omega) hu fun ad=>?_)
  unfold hdc
  simp (config := { maxSteps := 4000000 }) only [↓sxw,sxw,tf128,sxu,sxl,sxm,Int.reduceBEq,Int.reduceBNe,Int.reduceLT,Int.reduceLE,Int.reduceEq,Int.reduceGT,Int.reduceGE,Int.reduceToNat,↓reduceIte,List.reduceReplicate,Nat.reduceAdd,Nat.reduceSub,Nat.reduceMul,Nat.reduceLT,Nat.reduceLeDiff,Nat.reduceBEq,Nat.reduceEqDiff,hl1,e0]
  refine amid (at_1 (hrs _) i1_len hus rfl fun ad1=>?_)
  simp (config := { maxSteps := 4000000 }) only [↓sxw,sxw,tf128,sxu,sxl,sxm,Int.reduceBEq,Int.reduceBNe,Int.reduceLT,Int.reduceLE,Int.reduceEq,Int.reduceGT,Int.reduceGE,Int.reduceToNat,↓reduceIte,List.reduceReplicate,Nat.reduceAdd,Nat.reduceSub,Nat.reduceMul,Nat.reduceLT,Nat.reduceLeDiff,Nat.reduceBEq,Nat.reduceEqDiff]
  refine at_1 (hrc _) b1_len hci rfl fun ad2=>?_
  simp (config := { maxSteps := 4000000 }) only [↓sxw,sxw,tf128,sxu,sxl,sxm,Int.reduceBEq,Int.reduceBNe,Int.reduceLT,Int.reduceLE,Int.reduceEq,Int.reduceGT,Int.reduceGE,Int.reduceToNat,↓reduceIte,List.reduceReplicate,Nat.reduceAdd,Nat.reduceSub,Nat.reduceMul,Nat.reduceLT,Nat.reduceLeDiff,Nat.reduceBEq,Nat.reduceEqDiff,e8]
  exact ⟨i + 1,_,rfl,HImp.refl _ _,⟨by omega,rfl,hinv⟩,by omega⟩
 | true=>
 by_cases hb:bitS .and .i64 p.1.skills st = st
 case neg=>
  have qb:(bitS .and .i64 p.1.skills st = st) = False:=eq_false hb
  have hgn:G i = none:=by rw [hgi]; unfold hasB; simp [hb]
  rw [findSome_drop hri hgn] at hinv
  refine ⟨?_⟩
  simp (config := { maxSteps := 4000000 }) only [↓sxw,sxw,tf128,sxu,sxl,sxm,Int.reduceBEq,Int.reduceBNe,Int.reduceLT,Int.reduceLE,Int.reduceEq,Int.reduceGT,Int.reduceGE,Int.reduceToNat,↓reduceIte,List.reduceReplicate,Nat.reduceAdd,Nat.reduceSub,Nat.reduceMul,Nat.reduceLT,Nat.reduceLeDiff,Nat.reduceBEq,Nat.reduceEqDiff,e7]
  refine amid (at_n (hr _) hdc_len (by omega) hu fun ad=>?_)
  unfold hdc
  simp (config := { maxSteps := 4000000 }) only [↓sxw,sxw,tf128,sxu,sxl,sxm,Int.reduceBEq,Int.reduceBNe,Int.reduceLT,Int.reduceLE,Int.reduceEq,Int.reduceGT,Int.reduceGE,Int.reduceToNat,↓reduceIte,List.reduceReplicate,Nat.reduceAdd,Nat.reduceSub,Nat.reduceMul,Nat.reduceLT,Nat.reduceLeDiff,Nat.reduceBEq,Nat.reduceEqDiff,hl1,e0]
  refine amid (at_1 (hrs _) i1_len hus rfl fun ad1=>?_)
  simp (config := { maxSteps := 4000000 }) only [↓sxw,sxw,tf128,sxu,sxl,sxm,Int.reduceBEq,Int.reduceBNe,Int.reduceLT,Int.reduceLE,Int.reduceEq,Int.reduceGT,Int.reduceGE,Int.reduceToNat,↓reduceIte,List.reduceReplicate,Nat.reduceAdd,Nat.reduceSub,Nat.reduceMul,Nat.reduceLT,Nat.reduceLeDiff,Nat.reduceBEq,Nat.reduceEqDiff]
  refine at_1 (hrc _) b1_len hci rfl fun ad2=>?_
  simp (config := { maxSteps := 4000000 }) only [↓sxw,sxw,tf128,sxu,sxl,sxm,Int.reduceBEq,Int.reduceBNe,Int.reduceLT,Int.reduceLE,Int.reduceEq,Int.reduceGT,Int.reduceGE,Int.reduceToNat,↓reduceIte,List.reduceReplicate,Nat.reduceAdd,Nat.reduceSub,Nat.reduceMul,Nat.reduceLT,Nat.reduceLeDiff,Nat.reduceBEq,Nat.reduceEqDiff,qb,e8]
  exact ⟨i + 1,_,rfl,HImp.refl _ _,⟨by omega,rfl,hinv⟩,by omega⟩
 have qb:(bitS .and .i64 p.1.skills st = st) = True:=eq_true hb
 by_cases hm:(i:Int) ∈ who
 ·have hgn:G i = none:=by rw [hgi]; simp [hm]
  rw [findSome_drop hri hgn] at hinv
  have hco:=fun (H:List HO) w' hp=>hcon H w' hp i
  rw [decide_eq_true hm] at hco
  refine ⟨?_⟩
  simp (config := { maxSteps := 4000000 }) only [↓sxw,sxw,tf128,sxu,sxl,sxm,Int.reduceBEq,Int.reduceBNe,Int.reduceLT,Int.reduceLE,Int.reduceEq,Int.reduceGT,Int.reduceGE,Int.reduceToNat,↓reduceIte,List.reduceReplicate,Nat.reduceAdd,Nat.reduceSub,Nat.reduceMul,Nat.reduceLT,Nat.reduceLeDiff,Nat.reduceBEq,Nat.reduceEqDiff,e7]
  refine amid (at_n (hr _) hdc_len (by omega) hu fun ad=>?_)
  unfold hdc
  simp (config := { maxSteps := 4000000 }) only [↓sxw,sxw,tf128,sxu,sxl,sxm,Int.reduceBEq,Int.reduceBNe,Int.reduceLT,Int.reduceLE,Int.reduceEq,Int.reduceGT,Int.reduceGE,Int.reduceToNat,↓reduceIte,List.reduceReplicate,Nat.reduceAdd,Nat.reduceSub,Nat.reduceMul,Nat.reduceLT,Nat.reduceLeDiff,Nat.reduceBEq,Nat.reduceEqDiff,hl1,e0]
  refine amid (at_1 (hrs _) i1_len hus rfl fun ad1=>?_)
  simp (config := { maxSteps := 4000000 }) only [↓sxw,sxw,tf128,sxu,sxl,sxm,Int.reduceBEq,Int.reduceBNe,Int.reduceLT,Int.reduceLE,Int.reduceEq,Int.reduceGT,Int.reduceGE,Int.reduceToNat,↓reduceIte,List.reduceReplicate,Nat.reduceAdd,Nat.reduceSub,Nat.reduceMul,Nat.reduceLT,Nat.reduceLeDiff,Nat.reduceBEq,Nat.reduceEqDiff]
  refine at_1 (hrc _) b1_len hci rfl fun ad2=>?_
  simp (config := { maxSteps := 4000000 }) only [↓sxw,sxw,tf128,sxu,sxl,sxm,Int.reduceBEq,Int.reduceBNe,Int.reduceLT,Int.reduceLE,Int.reduceEq,Int.reduceGT,Int.reduceGE,Int.reduceToNat,↓reduceIte,List.reduceReplicate,Nat.reduceAdd,Nat.reduceSub,Nat.reduceMul,Nat.reduceLT,Nat.reduceLeDiff,Nat.reduceBEq,Nat.reduceEqDiff,qb,det0K]
  refine CallOb.pureH (fun w' hp=>hco _ w' hp) ?_
  rintro rc Nc rfl
  refine ⟨?_⟩
  simp (config := { maxSteps := 4000000 }) only [↓sxw,sxw,tf128,sxu,sxl,sxm,Int.reduceBEq,Int.reduceBNe,Int.reduceLT,Int.reduceLE,Int.reduceEq,Int.reduceGT,Int.reduceGE,Int.reduceToNat,↓reduceIte,List.reduceReplicate,Nat.reduceAdd,Nat.reduceSub,Nat.reduceMul,Nat.reduceLT,Nat.reduceLeDiff,Nat.reduceBEq,Nat.reduceEqDiff,e8]
  exact ⟨i + 1,_,rfl,HImp.nil _ _,⟨by omega,rfl,hinv⟩,by omega⟩
 have hco:=fun (H:List HO) w' hp=>hcon H w' hp i
 rw [decide_eq_false hm] at hco
 have hgr:G i = fillG (okS cans hands seats) hands.length r (who ++ [(i:Int)]):=by
  rw [hgi]
  unfold hasB
  rw [decide_eq_true hb,decide_eq_false hm]
  try rfl
 refine ⟨?_⟩
 simp (config := { maxSteps := 4000000 }) only [↓sxw,sxw,tf128,sxu,sxl,sxm,Int.reduceBEq,Int.reduceBNe,Int.reduceLT,Int.reduceLE,Int.reduceEq,Int.reduceGT,Int.reduceGE,Int.reduceToNat,↓reduceIte,List.reduceReplicate,Nat.reduceAdd,Nat.reduceSub,Nat.reduceMul,Nat.reduceLT,Nat.reduceLeDiff,Nat.reduceBEq,Nat.reduceEqDiff,e7]
 refine amid (at_n (hr _) hdc_len (by omega) hu fun ad=>?_)
 unfold hdc
 simp (config := { maxSteps := 4000000 }) only [↓sxw,sxw,tf128,sxu,sxl,sxm,Int.reduceBEq,Int.reduceBNe,Int.reduceLT,Int.reduceLE,Int.reduceEq,Int.reduceGT,Int.reduceGE,Int.reduceToNat,↓reduceIte,List.reduceReplicate,Nat.reduceAdd,Nat.reduceSub,Nat.reduceMul,Nat.reduceLT,Nat.reduceLeDiff,Nat.reduceBEq,Nat.reduceEqDiff,hl1,e0]
 refine amid (at_1 (hrs _) i1_len hus rfl fun ad1=>?_)
 simp (config := { maxSteps := 4000000 }) only [↓sxw,sxw,tf128,sxu,sxl,sxm,Int.reduceBEq,Int.reduceBNe,Int.reduceLT,Int.reduceLE,Int.reduceEq,Int.reduceGT,Int.reduceGE,Int.reduceToNat,↓reduceIte,List.reduceReplicate,Nat.reduceAdd,Nat.reduceSub,Nat.reduceMul,Nat.reduceLT,Nat.reduceLeDiff,Nat.reduceBEq,Nat.reduceEqDiff]
 refine at_1 (hrc _) b1_len hci rfl fun ad2=>?_
 simp (config := { maxSteps := 4000000 }) only [↓sxw,sxw,tf128,sxu,sxl,sxm,Int.reduceBEq,Int.reduceBNe,Int.reduceLT,Int.reduceLE,Int.reduceEq,Int.reduceGT,Int.reduceGE,Int.reduceToNat,↓reduceIte,List.reduceReplicate,Nat.reduceAdd,Nat.reduceSub,Nat.reduceMul,Nat.reduceLT,Nat.reduceLeDiff,Nat.reduceBEq,Nat.reduceEqDiff,qb,det0K]
 refine CallOb.pureH (fun w' hp=>hco _ w' hp) ?_
 rintro rc Nc rfl
 refine ⟨?_⟩
 have hcw':=hcw _ _ _ rfl
 cases aw with
 | none=>
  have hw0:who = []:=by
   cases who with
   | nil=>rfl
   | cons y ys=>
    obtain ⟨_,_,_,e,_,hc⟩:=hvw0
    cases e
    obtain ⟨ad,h,_⟩:=hc 0 _ rfl
    cases h
  subst hw0
  simp (config := { maxSteps := 4000000 }) only [↓sxw,sxw,tf128,sxu,sxl,sxm,Int.reduceBEq,Int.reduceBNe,Int.reduceLT,Int.reduceLE,Int.reduceEq,Int.reduceGT,Int.reduceGE,Int.reduceToNat,↓reduceIte,List.reduceReplicate,Nat.reduceAdd,Nat.reduceSub,Nat.reduceMul,Nat.reduceLT,Nat.reduceLeDiff,Nat.reduceBEq,Nat.reduceEqDiff]
  refine ⟨by simp,by simp,by simp,by simp,fun b=>?_⟩
  simp only [List.length_nil,Nat.sub_self,if_true]
  refine app_one (l:=([]:List Int)) (i:Int) (HImp.nilRow _ _ _ _) i1_len i1_one (by simp) fun ad2 c2=>?_
  simp (config := { maxSteps := 4000000 }) only [↓sxw,sxw,tf128,sxu,sxl,sxm,Int.reduceBEq,Int.reduceBNe,Int.reduceLT,Int.reduceLE,Int.reduceEq,Int.reduceGT,Int.reduceGE,Int.reduceToNat,↓reduceIte,List.reduceReplicate,Nat.reduceAdd,Nat.reduceSub,Nat.reduceMul,Nat.reduceLT,Nat.reduceLeDiff,Nat.reduceBEq,Nat.reduceEqDiff,det0K]
  refine CallOb.pureH (fun w' hp=>ih w' (hha0.hp hp) _ _ _ (hvc0.hp (fun _ _=>id) hp) (hvs0.hp (fun _ _=>id) hp) (([]:List Int) ++ [(i:Int)]) (row_hp List.mem_cons_self hp) (fun a n c h=>by cases h; exact row_cap List.mem_cons_self hp) (by simp only [List.nil_append,List.length_singleton,List.length_nil] at hwl ⊢; omega)) ?_
  rintro r3 N3 (⟨h3,rfl⟩ | ⟨l,x,h3,rfl,h4⟩)
  ·rw [findSome_drop hri (hgr.trans h3)] at hinv
   refine ⟨?_⟩
   simp (config := { maxSteps := 4000000 }) only [↓sxw,sxw,tf128,sxu,sxl,sxm,Int.reduceBEq,Int.reduceBNe,Int.reduceLT,Int.reduceLE,Int.reduceEq,Int.reduceGT,Int.reduceGE,Int.reduceToNat,↓reduceIte,List.reduceReplicate,Nat.reduceAdd,Nat.reduceSub,Nat.reduceMul,Nat.reduceLT,Nat.reduceLeDiff,Nat.reduceBEq,Nat.reduceEqDiff,e8]
   exact ⟨i + 1,_,rfl,HImp.nil _ _,⟨by omega,rfl,hinv⟩,by omega⟩
  ·rw [findSome_hit hri (hgr.trans h3)] at hinv
   refine ⟨?_⟩
   simp (config := { maxSteps := 4000000 }) only [↓sxw,sxw,tf128,sxu,sxl,sxm,Int.reduceBEq,Int.reduceBNe,Int.reduceLT,Int.reduceLE,Int.reduceEq,Int.reduceGT,Int.reduceGE,Int.reduceToNat,↓reduceIte,List.reduceReplicate,Nat.reduceAdd,Nat.reduceSub,Nat.reduceMul,Nat.reduceLT,Nat.reduceLeDiff,Nat.reduceBEq,Nat.reduceEqDiff]
   refine .inr ⟨l,x,hinv,rfl,.inr ?_⟩
   rcases h4 with ⟨rfl,rfl⟩ | h4
   ·exact Got.row (by simp) (List.mem_append_right _ List.mem_cons_self) (fun h=>by cases h)
   ·exact h4.mono fun h hh=>by simp [hh]
 | some adw=>
  simp (config := { maxSteps := 4000000 }) only [↓sxw,sxw,tf128,sxu,sxl,sxm,Int.reduceBEq,Int.reduceBNe,Int.reduceLT,Int.reduceLE,Int.reduceEq,Int.reduceGT,Int.reduceGE,Int.reduceToNat,↓reduceIte,List.reduceReplicate,Nat.reduceAdd,Nat.reduceSub,Nat.reduceMul,Nat.reduceLT,Nat.reduceLeDiff,Nat.reduceBEq,Nat.reduceEqDiff]
  refine ⟨by omega,by omega,by omega,by omega,fun b=>?_⟩
  rw [show (if who.length = 0 then some adw else some (adw.add 0)) = some (if who.length = 0 then adw else adw.add 0) by split <;> rfl,Nat.sub_zero]
  refine app_ro (l:=who) (m:=[(i:Int)]) i1_len (by simp) (fun w' hp=>Sl.full (hvw0.hp (fun _ _=>id) hp)) (fun w' hp=>row_hp List.mem_cons_self hp) (by simp only [List.length_cons,List.length_nil]; omega) fun b2 c2=>?_
  simp (config := { maxSteps := 4000000 }) only [↓sxw,sxw,tf128,sxu,sxl,sxm,Int.reduceBEq,Int.reduceBNe,Int.reduceLT,Int.reduceLE,Int.reduceEq,Int.reduceGT,Int.reduceGE,Int.reduceToNat,↓reduceIte,List.reduceReplicate,Nat.reduceAdd,Nat.reduceSub,Nat.reduceMul,Nat.reduceLT,Nat.reduceLeDiff,Nat.reduceBEq,Nat.reduceEqDiff,det0K]
  refine CallOb.pureH (fun w' hp=>ih w' (hha0.hp hp) _ _ _ (hvc0.hp (fun _ _=>id) hp) (hvs0.hp (fun _ _=>id) hp) (who ++ [(i:Int)]) (row_hp List.mem_cons_self hp) (fun a n c h=>by cases h; exact row_cap List.mem_cons_self hp) (by rw [List.length_append,List.length_singleton]; omega)) ?_
  rintro r3 N3 (⟨h3,rfl⟩ | ⟨l,x,h3,rfl,h4⟩)
  ·rw [findSome_drop hri (hgr.trans h3)] at hinv
   refine ⟨?_⟩
   simp (config := { maxSteps := 4000000 }) only [↓sxw,sxw,tf128,sxu,sxl,sxm,Int.reduceBEq,Int.reduceBNe,Int.reduceLT,Int.reduceLE,Int.reduceEq,Int.reduceGT,Int.reduceGE,Int.reduceToNat,↓reduceIte,List.reduceReplicate,Nat.reduceAdd,Nat.reduceSub,Nat.reduceMul,Nat.reduceLT,Nat.reduceLeDiff,Nat.reduceBEq,Nat.reduceEqDiff,e8]
   exact ⟨i + 1,_,rfl,HImp.nil _ _,⟨by omega,rfl,hinv⟩,by omega⟩
  ·rw [findSome_hit hri (hgr.trans h3)] at hinv
   refine ⟨?_⟩
   simp (config := { maxSteps := 4000000 }) only [↓sxw,sxw,tf128,sxu,sxl,sxm,Int.reduceBEq,Int.reduceBNe,Int.reduceLT,Int.reduceLE,Int.reduceEq,Int.reduceGT,Int.reduceGE,Int.reduceToNat,↓reduceIte,List.reduceReplicate,Nat.reduceAdd,Nat.reduceSub,Nat.reduceMul,Nat.reduceLT,Nat.reduceLeDiff,Nat.reduceBEq,Nat.reduceEqDiff]
   refine .inr ⟨l,x,hinv,rfl,.inr ?_⟩
   rcases h4 with ⟨rfl,rfl⟩ | h4
   ·exact Got.row (by simp) (List.mem_append_right _ List.mem_cons_self) (fun h=>by cases h)
   ·exact h4.mono fun h hh=>by simp [hh]
end Go.Proofs.YtljpknnhimkkjaaGreatDoor

namespace Go.Proofs.YtljpknnhimkkjaaGreatDoor
open Go.RowKit Go.SX
set_option maxRecDepth 10000
set_option maxHeartbeats 4000000
set_option linter.unusedSimpArgs false
set_option linter.unusedVariables false
noncomputable def musG (s:Stn) (call len:Int) (seats:List Int):Option (Nat × List Int):=(List.range 101).findSome? fun (j:Nat)=>(fillG (okS (atL s call len (call + (j:Int))) s.hands seats) s.hands.length seats.length []).map fun l=>(j,l)
def MusP (call:Int) (res:Option (Nat × List Int)) (r:Value) (N:List HO):Prop:=(res = none ∧ r = .tuple #[I 0,.slice none 0 0,.bool false]) ∨ ∃ j l x,res = some (j,l) ∧ r = .tuple #[I (call + (j:Nat)),x,.bool true] ∧ Got x 3 1 i1 l N
theorem StOk.keepR {w w':World} {X:Nat → Prop} {v:Value} {s:Stn} (h:StOk w v s) (hk:Keep X w w') (hX:∀ b,b < w.heap.size → ¬ X b):StOk w' v s:=by
 obtain ⟨hv,ps,h1,h2,h3,h4⟩:=h
 exact ⟨hv,ps,h1,h2,h3.keepR hk fun b hb=>hX b hb.2,fun p hp=>Sl.keepR (h4 p hp) hk fun b hb=>hX b hb.2⟩
def CaB (B:List HO) (v:Value) (s:Stn) (at_ len:Int) (bc br bk:Nat):Prop:=RoN B v s br ∧ HO.cells bc 140 [.pointer (some ⟨br,0,none⟩),I at_,I len,.slice (some ⟨bk,0,none⟩) s.hands.length s.hands.length] ∈ B
theorem knR_fp {bk n:Nat} {kn:List (Nat → Int)}:(knR bk n kn).fp bk ∧ (knR bk n kn).fpx bk:=by
 simp [knR,HO.fp,HO.fpx,Value.ownBlock]
theorem CaB.ca {B:List HO} {v:Value} {s:Stn} {at_ len:Int} {bc br bk n:Nat} {kn:List (Nat → Int)} {w0 w:World} (h:CaB B v s at_ len bc br bk) (hp:Hp ⟨w0,fun _=>False⟩ (knR bk n kn :: B) w) (hs:StOk w0 v s):CaOk w bc br bk s at_ len:=by
 obtain ⟨hro,hcc⟩:=h
 have hnd:=List.pairwise_cons.1 hp.nd
 have hbk:w0.heap.size ≤ bk:=(hp.old _ List.mem_cons_self bk knR_fp.2).resolve_left id
 have hne:∀ g ∈ B,∀ b,g.fp b → b ≠ bk:=fun g hg b hb e=>by
  subst e
  exact (hnd.1 g hg b knR_fp.1 hb).1 knR_fp.2
 have hok:∀ w',Keep (fun b=>b = bk) w w' → ∀ g ∈ B,g.ok w':=fun w' hk g hg=>HO.stable (hp.ok g (List.mem_cons_of_mem _ hg)) (hk.sameOn (fun b hb=>HO.lt (hp.ok g (List.mem_cons_of_mem _ hg)) hb) fun b hb=>hne g hg b hb)
 have hst:∀ w',Keep (fun b=>b = bk) w w' → StOk w' v s:=fun w' hk=>hs.keepR (hp.ext.trans hk) fun b hb hx=>by
  rcases hx with hx | hx
  ·exact hx
  ·have hx:b = bk:=hx
   omega
 have hro2:∀ w',Keep (fun b=>b = bk) w w' → RoOk w' br s:=fun w' hk=>by
  obtain ⟨hv,ao,co,bs,rfl,h1,h2,h3,h4,h5⟩:=hro
  obtain ⟨hv',ps,he,k1,k2,k3⟩:=hst w' hk
  have:hv' = hv:=by
   injection he with he
   injection he with he
   exact (List.cons.inj he).1.symm
  subst this
  refine ⟨hv',.slice ao s.hands.length co,ps,bs,fun i x hx=>?_,k1,k2,k3,RowOk.sl (hok w' hk _ h2),h3,fun i b h hb hh j v hj=>?_⟩
  ·rw [cell_of_cells (hok w' hk _ h1)]
   simpa using hx
  ·rw [cell_of_cells (hok w' hk _ (h5 i b h hb hh))]
   simpa using hj
 refine ⟨hne _ hcc bc rfl,?_,?_,fun w' hk=>⟨fun i x hx=>?_,hro2 w' hk⟩⟩
 ·obtain ⟨hv,ao,co,bs,_,h1,_⟩:=hro
  exact hne _ h1 br rfl
 ·obtain ⟨hv,ao,co,bs,rfl,h1,h2,h3,h4,h5⟩:=hro
  obtain ⟨hv',ps,he,k1,k2,k3⟩:=hs
  have:hv' = hv:=by
   injection he with he
   injection he with he
   exact (List.cons.inj he).1.symm
  subst this
  refine ⟨hv',ps,?_,k1,Sl.keep k2 hp.ext fun _ _=>id,fun h0 b hb e=>?_⟩
  ·rw [cell_of_cells (hp.ok _ (List.mem_cons_of_mem _ h1))]
   try rfl
  ·have:=k2.own_lt (by rw [cat_len hdc_len]; omega) hb
   omega
 ·rw [cell_of_cells (hok w' hk _ hcc)]
  simpa using hx
theorem CaOk.ha {w:World} {bc br bk:Nat} {s:Stn} {call len:Int} (h:CaOk w bc br bk s call len):HaOk w bc br s.hands:=by
 obtain ⟨hv,ps,h1,h2,h3,_⟩:=h.hands
 exact ⟨(h.all w (Keep.refl _ w)).1 0 _ rfl,hv,ps,h1,h2,h3⟩
theorem muster_fn (w:World) (bc br bk:Nat) (s:Stn) (call len:Int) (hok:s.okB = true) (hc:0 ≤ call ∧ call ≤ 100) (hl:1 ≤ len ∧ len ≤ 40) (hca:CaOk w bc br bk s call len) (kn:List (Nat → Int)) (hrow:HO.ok w (knR bk s.hands.length kn)) (hkn:KnOk s call len kn) (vs:Value) (seats:List Int) (hvs:∀ w',Keep (fun b=>b = bk) w w' → Sl w' vs 1 (ints seats)) (hsl:seats.length ≤ 1000):
  SX.Fn Tryz.prog 71 [.pointer (some ⟨bc,0,none⟩),vs] w (fpsx [knR bk s.hands.length kn]) fun r N=>∃ kn',KnOk s call len kn' ∧ knR bk s.hands.length kn' ∈ N ∧ MusP call (musG s call len seats) r N:=by
 have hob:=okB_of hok
 have hX:∀ b,b ≠ bk → ¬ fpsx [knR bk s.hands.length kn] b:=fun b hb hx=>hb (fpsx_knR.1 hx)
 have hcell:=(hca.all w (Keep.refl _ w)).1
 have c1:=hcell 1 _ rfl
 obtain ⟨asx,ns,cs,rfl⟩:=(hvs w (Keep.refl _ w)).shape
 have e3:wrK (call + 100) = call + 100:=wrap_id (by omega)
 have hM:musG s call len seats = (List.range 101).findSome? fun (j:Nat)=>(fillG (okS (atL s call len (call + (j:Int))) s.hands seats) s.hands.length seats.length []).map fun l=>(j,l):=rfl
 generalize hG:(fun j:Nat=>(fillG (okS (atL s call len (call + (j:Int))) s.hands seats) s.hands.length seats.length []).map fun l=>(j,l)) = G at hM
 have hGe:∀ j:Nat,G j = (fillG (okS (atL s call len (call + (j:Int))) s.hands seats) s.hands.length seats.length []).map fun l=>(j,l):=fun j=>by rw [← hG]
 have hat:=fun (kn':List (Nat → Int)) w' (hp:Hp ⟨w,fpsx [knR bk s.hands.length kn]⟩ ([knR bk s.hands.length kn'] ++ []) w') (hkn':KnOk s call len kn') (j:Nat) (hj:j ≤ 100)=>at_fn w' bc br bk s call len hok hc hl (hca.keep (hp.ext.mono fun b hb=>fpsx_knR.1 hb)) kn' (hp.ok _ List.mem_cons_self) hkn' j hj
 have hse:=fun (H:List HO) w' (hp:Hp ⟨w,fpsx [knR bk s.hands.length kn]⟩ H w') (cans:List Bool) (hcl:cans.length = s.hands.length) (vc:Value) (hvc:Sl w' vc 1 (bools cans))=>seat_fn bc br s.hands hob.1 cans hcl seats hsl seats.length w' (hca.keep (hp.ext.mono fun b hb=>fpsx_knR.1 hb)).ha vc _ (.slice none 0 0) hvc (hvs w' (hp.ext.mono fun b hb=>fpsx_knR.1 hb)) [] (Sl.nil _ _) (fun a n c h=>by cases h; exact Nat.le_refl _) (by simp)
 refine walk [] [] (det0K_ok _ _) Tryz.func71 rfl Tryz.ntmps71 res71 (by kernel_rfl) (H0:=[knR bk s.hands.length kn]) ⟨fun g hg=>by rw [List.mem_singleton] at hg; subst hg; exact hrow,fun g hg b hb=>⟨g,hg,by rw [List.mem_singleton] at hg; subst hg; exact hb⟩,List.pairwise_singleton _ _⟩ ?_
 simp (config := { maxSteps := 4000000 }) only [↓sxw,sxw,tf71,sxu,sxl,sxm,simprocAttr]
 refine ld_olda (by simp [add_block]) c1 (hX _ hca.ne) ?_
 simp (config := { maxSteps := 4000000 }) only [↓sxw,sxw,tf71,sxu,sxl,sxm,simprocAttr]
 refine loop_constH [knR bk s.hands.length kn] (HImp.refl _ _) [(4,9),(14,34)] (fun j:Nat=>[(7,I (call + (j:Int)))]) (fun j H1=>j ≤ 101 ∧ ∃ kn',KnOk s call len kn' ∧ H1 = [knR bk s.hands.length kn'] ∧ musG s call len seats = ((List.range 101).drop j).findSome? G) (fun j=>101 - j) 0 ?_ ⟨Nat.zero_le _,kn,hkn,rfl,hM⟩ ?_
 ·simp (config := { maxSteps := 4000000 }) only [↓sxw,sxw,tf71,sxu,sxl,sxm,simprocAttr]
  try simp
 rintro j H1 g1 ⟨hj,kn',hkn',rfl,hinv⟩
 by_cases hjn:j = 101
 ·have e7:(call + (j:Int) ≤ call + 100) = False:=eq_false (by omega)
  rw [List.drop_of_length_le (by rw [List.length_range]; omega)] at hinv
  rw [hinv]
  refine ⟨?_⟩
  simp (config := { maxSteps := 4000000 }) only [↓sxw,sxw,tf71,sxu,sxl,sxm,simprocAttr]
  refine ld_olda (by simp [add_block]) c1 (hX _ hca.ne) ?_
  simp (config := { maxSteps := 4000000 }) only [↓sxw,sxw,tf71,sxu,sxl,sxm,simprocAttr,e3,e7]
  exact ⟨kn',hkn',List.mem_cons_self,.inl ⟨rfl,rfl⟩⟩
 have e7:(call + (j:Int) ≤ call + 100) = True:=eq_true (by omega)
 have e8:wrK (call + (j:Int) + 1) = call + ((j + 1:Nat):Int):=(wrap_id (by omega)).trans (by omega)
 have hrj:(List.range 101)[j]? = some j:=List.getElem?_range (by omega)
 have hgj:=hGe j
 refine ⟨?_⟩
 simp (config := { maxSteps := 4000000 }) only [↓sxw,sxw,tf71,sxu,sxl,sxm,simprocAttr]
 refine ld_olda (by simp [add_block]) c1 (hX _ hca.ne) ?_
 simp (config := { maxSteps := 4000000 }) only [↓sxw,sxw,tf71,sxu,sxl,sxm,simprocAttr,e3,e7,det0K]
 refine CallOb.mutH (A:=[knR bk s.hands.length kn']) (B:=[]) (HImp.refl _ _) fps_knR (fun w' hp=>hat kn' w' hp hkn' j (by omega)) ?_
 rintro r1 N1 ⟨kn2,hkn2,hm,hgot⟩
 have hsh:=hgot.shape
 obtain ⟨adb,cb,rfl⟩:=hsh
 refine ⟨?_⟩
 simp (config := { maxSteps := 4000000 }) only [↓sxw,sxw,tf71,sxu,sxl,sxm,simprocAttr,det0K]
 refine CallOb.pureH (fun w' hp=>hse _ w' hp _ (by unfold atL; rw [List.length_map]) _ (hgot.hp (fun h hh=>by simp [hh]) hp)) ?_
 rintro r3 N3 (⟨h3,rfl⟩ | ⟨l,x,h3,rfl,h4⟩)
 ·have hgn:G j = none:=by rw [hgj,h3]; rfl
  rw [findSome_drop hrj hgn] at hinv
  refine ⟨?_⟩
  simp (config := { maxSteps := 4000000 }) only [↓sxw,sxw,tf71,sxu,sxl,sxm,simprocAttr,e8]
  exact ⟨j + 1,_,rfl,HImp.sub (List.singleton_sublist.2 (by simp [hm])),⟨by omega,kn2,hkn2,rfl,hinv⟩,by omega⟩
 ·have hgs:G j = some (j,l):=by rw [hgj,h3]; rfl
  rw [findSome_hit hrj hgs] at hinv
  refine ⟨?_⟩
  simp (config := { maxSteps := 4000000 }) only [↓sxw,sxw,tf71,sxu,sxl,sxm,simprocAttr]
  refine ⟨kn2,hkn2,by simp [hm],.inr ⟨j,l,x,hinv,rfl,?_⟩⟩
  rcases h4 with ⟨rfl,rfl⟩ | h4
  ·exact Got.nil _
  ·exact h4.mono fun h hh=>by simp [hh]
end Go.Proofs.YtljpknnhimkkjaaGreatDoor

namespace Go.Proofs.YtljpknnhimkkjaaGreatDoor
open Go.RowKit Go.SX
set_option maxRecDepth 10000
set_option maxHeartbeats 4000000
set_option linter.unusedSimpArgs false
set_option linter.unusedVariables false
noncomputable def musE (s:Stn) (call:Int) (seats:List Int) (len:Int):Int:=if callE s call seats len = 0 then (match musG s call len seats with | some _=>0 | none=>3) else callE s call seats len
noncomputable def musT (s:Stn) (call:Int) (seats:List Int) (len:Int):Int:=if callE s call seats len = 0 then (match musG s call len seats with | some (j,_)=>call + (j:Nat) | none=>0) else 0
noncomputable def musL (s:Stn) (call:Int) (seats:List Int) (len:Int):List Int:=if callE s call seats len = 0 then (match musG s call len seats with | some (_,l)=>l | none=>[]) else []
def TLE (t:Int) (l:List Int) (e:Int) (r:Value) (N:List HO):Prop:=∃ x,r = .tuple #[I t,x,I e] ∧ Got x 3 1 i1 l N
theorem CaN.split {N:List HO} {v:Value} {s:Stn} {at_ len:Int} {bc:Nat} (h:CaN N v s at_ len bc):∃ br bk B,N.Perm (knR bk s.hands.length (List.replicate s.hands.length fun _=>0) :: B) ∧ CaB B v s at_ len bc br bk:=by
 obtain ⟨br,bk,hro,hcc,hkn⟩:=h
 obtain ⟨B1,B2,rfl⟩:=List.append_of_mem hkn
 have hin:∀ g ∈ B1 ++ HO.row (.slice (some ⟨bk,0,none⟩) s.hands.length s.hands.length) 253 101 (cat kc (List.replicate s.hands.length fun _=>0)) :: B2,g ≠ HO.row (.slice (some ⟨bk,0,none⟩) s.hands.length s.hands.length) 253 101 (cat kc (List.replicate s.hands.length fun _=>0)) → g ∈ B1 ++ B2:=fun g hg hne=>by
  simp only [List.mem_append,List.mem_cons] at hg ⊢
  rcases hg with h | h | h
  ·exact .inl h
  ·exact absurd h hne
  ·exact .inr h
 refine ⟨br,bk,B1 ++ B2,List.perm_middle,?_,hin _ hcc (fun h=>by cases h)⟩
 obtain ⟨hv,ao,co,bs,h1,h2,h3,h4,h5,h6⟩:=hro
 refine ⟨hv,ao,co,bs,h1,hin _ h2 (fun h=>by cases h),hin _ h3 (fun h=>?_),h4,h5,fun i b h hb hh=>hin _ (h6 i b h hb hh) (fun h=>by cases h)⟩
 injection h with _ h
 cases h
theorem muster1_fn (w:World) (v:Value) (s:Stn) (hs:StOk w v s) (hsm:s.small) (call:Int) (vs:Value) (seats:List Int) (hvs:Sl w vs 1 (ints seats)) (hlb:seats.length ≤ 1000) (len:Int):
  SX.Fn Tryz.prog 27 [v,I call,vs,I len] w (fun _=>False) (TLE (musT s call seats len) (musL s call seats len) (musE s call seats len)):=by
 have hs0:=hs
 have hca:=fun (H:List HO) w' (hp:Hp ⟨w,fun _=>False⟩ H w')=>call_fn w' v s (hs0.hp hp) hsm call vs seats (hvs.hp (fun _ _=>id) hp) hlb len
 obtain ⟨hv,ps,rfl,hps,hsl,hlg⟩:=hs
 obtain ⟨a,n,c,rfl⟩:=hsl.shape
 obtain ⟨asx,ns,cs,rfl⟩:=hvs.shape
 unfold musT musL musE
 refine walk [] [] (det0K_ok _ _) Tryz.func27 rfl Tryz.ntmps27 res27 (by kernel_rfl) no_facts ?_
 simp (config := { maxSteps := 4000000 }) only [↓sxw,sxw,tf27,sxu,sxl,sxm,simprocAttr,det0K]
 refine CallOb.pureH (fun w' hp=>hca _ w' hp) ?_
 rintro r N ⟨x,rfl,hx⟩
 by_cases he:callE s call seats len = 0
 case neg=>
  have e1:(callE s call seats len = 0) = False:=eq_false he
  rw [if_neg he,if_neg he,if_neg he]
  refine ⟨?_⟩
  simp (config := { maxSteps := 4000000 }) only [↓sxw,sxw,tf27,sxu,sxl,sxm,simprocAttr,e1]
  exact ⟨_,rfl,Got.nil _⟩
 obtain ⟨bc,rfl,hcn⟩:=hx he
 have hz:=callE_zero he
 obtain ⟨hok,hc,hl,_,_⟩:=hz
 obtain ⟨br,bk,B,hperm,hcb⟩:=hcn.split
 have hmu:=fun w' (hp:Hp ⟨w,fun _=>False⟩ ([knR bk s.hands.length (List.replicate s.hands.length fun _=>0)] ++ B) w')=>muster_fn w' bc br bk s call len hok hc hl (hcb.ca hp hs0) _ (hp.ok _ List.mem_cons_self) (KnOk.zero s call len) (.slice asx ns cs) seats (fun w2 hk=>hvs.keepR (hp.ext.trans hk) fun b hb hx=>by
  rcases hx with hx | hx
  ·exact hx
  ·have hbk:w.heap.size ≤ bk:=(hp.old _ List.mem_cons_self bk knR_fp.2).resolve_left id
   have hx:b = bk:=hx
   have:=hb.2
   omega) hlb
 rw [if_pos he,if_pos he,if_pos he,he]
 refine ⟨?_⟩
 simp (config := { maxSteps := 4000000 }) only [↓sxw,sxw,tf27,sxu,sxl,sxm,simprocAttr,det0K]
 refine CallOb.mutH (A:=[knR bk s.hands.length (List.replicate s.hands.length fun _=>0)]) (B:=B) (HImp.perm (by simpa using hperm)) fps_knR hmu ?_
 rintro r N2 ⟨kn',hkn',hm,(⟨h3,rfl⟩ | ⟨j,l,x,h3,rfl,h4⟩)⟩
 ·rw [h3]
  refine ⟨?_⟩
  simp (config := { maxSteps := 4000000 }) only [↓sxw,sxw,tf27,sxu,sxl,sxm,simprocAttr]
  exact ⟨_,rfl,Got.nil _⟩
 ·rw [h3]
  refine ⟨?_⟩
  simp (config := { maxSteps := 4000000 }) only [↓sxw,sxw,tf27,sxu,sxl,sxm,simprocAttr]
  exact ⟨_,rfl,h4.mono fun h hh=>by simp [hh]⟩
end Go.Proofs.YtljpknnhimkkjaaGreatDoor

