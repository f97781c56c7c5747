/- Parts of a proof: the symbolic walk and what it shows of single functions. -/
import Derived.Test.YtljpknnhimkkjaaGreatDoorH5
import Derived.Test.YtljpknnhimkkjaaGreatDoorX3
set_option linter.all false
namespace Go.Proofs.YtljpknnhimkkjaaGreatDoor
open Go.RowKit Go.SX
set_option maxRecDepth 10000
set_option maxHeartbeats 0
set_option linter.unusedSimpArgs false
set_option linter.unusedVariables false
theorem walkZ8 {f:Nat} {fn:Func} {c:Code} {args:List Value} {n:Nat} {rs:List ResultVar} {Post:Value → List HO → Prop} {w:World} {X:Nat → Prop} (Z:Nat → Prop) (re:List Nat) (ord:List (Nat × Plan)) {det:Nat → List Value → Option Value} (hD:DetFn Tryz.prog ⟨w,X⟩ det)
  (hf:Tryz.prog.funcs[f]? = some fn) (hb:fn.body = some c) (hn:fn.ntmps = n) (hr:fn.results.toList = rs) (hok:codeB ord c = true) {H0:List HO}
  (h0:(∀ h ∈ H0,h.ok w) ∧ (∀ h ∈ H0,∀ b,(h.fp b → Z b) ∧ (h.fpx b → X b)) ∧ H0.Pairwise Apart)
  (h:W (EV w X re ord det []) c (retQ (EV w X re ord det []) rs Post) (args.map SV.v ++ List.replicate (n - args.length) (.v undef)) [] H0):FnZ Tryz.prog f args w X Z Post:=by
 subst hn hr
 exact Fn.introZ (E:=EV w X re ord det []) Z hf hb trivial hD mixed_prog hok h0 h
def lsArg (all:List (List Int)):Nat → List Value → List HO → Prop:=fun k vs F=>∃ x a c,all[k]? = some x ∧ vs = [.slice a x.length c] ∧ (a = none → x = []) ∧ F = [.ro (.row (.slice a x.length c) 3 1 (ints x))]
def growC (bm by_ bn bg:Nat):Value:=.func (.func 147) #[] #[.pointer (some ⟨bm,0,none⟩),.pointer (some ⟨by_,0,none⟩),.pointer (some ⟨bn,0,none⟩),.pointer (some ⟨bg,0,none⟩)]
def yldC (l:Nat):Value:=.func (.yield l) #[] #[]
def FrP8 (J:Option Nat → (Nat → Prop) → (Nat → Prop) → World → Prop) (k:Nat) (v:Value) (N:List HO):Prop:=∃ t C2 R2,v = .bool t ∧ consu J (bif t then some k else none) C2 R2 ∈ N
theorem sl_full8 {w:World} {ad:Addr} {n c:Nat} {xs:List Value} (h:Sl w (.slice (some ad) n c) 1 xs):Sl w (.slice (some (if n = 0 then ad else ad.add 0)) n n) 1 xs:=by
 have hl:=h.len
 split
 ·rename_i h0
  subst h0
  have:xs = []:=List.eq_nil_of_length_eq_zero (by omega)
  subst this
  exact ⟨_,_,_,rfl,rfl,fun i x hx=>by simp at hx⟩
 ·have:=Sl.pre (m:=n) (c:=n) h (Nat.le_refl _)
  rwa [List.take_of_length_le (by omega)] at this
theorem sl_nonil8 {w:World} {n c sz:Nat} {xs:List Value} (h:Sl w (.slice none n c) sz xs):xs = []:=by
 cases xs with
 | nil=>rfl
 | cons y ys=>
  obtain ⟨_,_,_,e,_,hcl⟩:=h
  cases e
  obtain ⟨ad,h,_⟩:=hcl 0 _ rfl
  cases h
theorem ints_nil8 {l:List Int} (h:ints l = []):l = []:=by
 cases l with
 | nil=>rfl
 | cons y ys=>simp [cat,i1] at h
def pl147_6:Plan:=(ones [1,2,3,4,5,6,7,10,11] (.ld 0 (ones [8] (.kl 9 (.mu 12 (ones [13] .fin))))))
def pl147:List (Nat × Plan):=[(6,pl147_6)]
theorem pl147_lk:(lkO 6 pl147 = some pl147_6):=rfl
theorem choices1_fn (all:List (List Int)) (ws:World) (C0 A0:Nat → Prop) (l:Nat) (J:Option Nat → (Nat → Prop) → (Nat → Prop) → World → Prop) (hH:Handler Tryz.prog l all.length (lsArg all) ws C0 A0 J) (bm by_ bl bf many below:Nat) (hmany:many ≤ 1000) (hbel:below ≤ 1000):∀ (r:Nat) (w:World) (k:Nat) (C R:Nat → Prop) (vl:Value) (list:List Int) (first:Nat),
  Keep (fun b=>C0 b ∨ A0 b) ws w → (∀ b,C b → (C0 b ∨ A0 b) ∨ ws.heap.size ≤ b) → HO.ok w (consu J (some k) C R) → HO.ok w (.row vl 3 1 (ints list)) → (∀ b,vl.ownBlock = some b → ¬ C b ∧ ws.heap.size ≤ b) →
  w.cell? ⟨bm,0,none⟩ = some (I many) → ¬ C bm → w.cell? ⟨bl,0,none⟩ = some (I below) → ¬ C bl → w.cell? ⟨bf,0,none⟩ = some (growC bm by_ bl bf) → ¬ C bf → w.cell? ⟨by_,0,none⟩ = some (yldC l) → ¬ C by_ → list.length + r = many → first ≤ below → tailAt all ((cmb r ((idx below).drop first)).map (list ++ ·)) k →
  FnZ Tryz.prog 147 [vl,I first,.pointer (some ⟨bm,0,none⟩),.pointer (some ⟨by_,0,none⟩),.pointer (some ⟨bl,0,none⟩),.pointer (some ⟨bf,0,none⟩)] w C (fun b=>C b ∨ R b ∨ vl.ownBlock = some b) (FrP8 J (k + (cmb r ((idx below).drop first)).length)):=by
 intro r
 induction r with
 | zero=>
  intro w k C R vl list first hks hXs hc hl hlX hm hmX hb hbX hf hfX hy hyX hlen hrl hpart
  have hsl:=RowOk.sl hl
  obtain ⟨a,n,c,rfl⟩:=hsl.shape
  have hn:=hsl.le i1_len (by omega)
  subst hn
  have e1:((list.length:Int) = (many:Int)) = True:=eq_true (by omega)
  have hk:k < all.length:=by have:=hpart.1; simp [cmb] at this; omega
  have hall:all[k]? = some list:=by have:=hpart.2 0 (by simp [cmb]); simpa [cmb] using this
  refine walkZ8 (H0:=[consu J (some k) C R,.ro (.row (.slice a list.length c) 3 1 (ints list))]) _ [] pl147 (det0_ok _ _) Tryz.func147 rfl Tryz.ntmps147 res147 (by kernel_rfl) ⟨?_,?_,?_⟩ ?_
  ·intro h hh
   simp only [List.mem_cons,List.not_mem_nil,or_false] at hh
   rcases hh with rfl | rfl
   ·exact hc
   ·exact hl
  ·intro h hh b
   simp only [List.mem_cons,List.not_mem_nil,or_false] at hh
   rcases hh with rfl | rfl
   ·exact ⟨fun h=>h.elim .inl fun h=>.inr (.inl h),id⟩
   ·exact ⟨fun h=>.inr (.inr h),fun h=>h.elim⟩
  ·refine List.pairwise_cons.2 ⟨fun h hh b hb hb'=>?_,List.pairwise_singleton _ _⟩
   rw [List.mem_singleton] at hh
   subst hh
   exact ⟨(hlX b hb').1,id⟩
  simp (config := { maxSteps := 4000000 }) only [↓sxw,sxw,tf147,sxu,sxl,sxm,simprocAttr]
  refine ld_old hm hmX ?_
  simp (config := { maxSteps := 4000000 }) only [↓sxw,sxw,tf147,sxu,sxl,sxm,simprocAttr,e1]
  refine ld_old hy hyX ?_
  unfold yldC
  simp (config := { maxSteps := 4000000 }) only [↓sxw,sxw,tf147,sxu,sxl,sxm,simprocAttr]
  refine CallOb.yieldL hH hks hXs (k:=k) hk (F:=[.ro (.row (.slice a list.length c) 3 1 (ints list))]) (B:=[.ro (.row (.slice a list.length c) 3 1 (ints list))]) (HImp.refl _ _) (List.Sublist.refl _) ⟨list,a,c,hall,rfl,fun h=>by subst h; exact ints_nil8 (sl_nonil8 hsl),rfl⟩ (by simp [HO.fpx]) (fun w' hp b ⟨h,hh,hb⟩=>?_) fun t C2 R2=>?_
  ·rw [List.mem_singleton] at hh
   subst hh
   exact (hlX b hb).2
  refine ⟨?_⟩
  simp (config := { maxSteps := 4000000 }) only [↓sxw,sxw,tf147,sxu,sxl,sxm,simprocAttr]
  exact ⟨t,C2,R2,rfl,by simp [cmb]⟩
 | succ r ih=>
 intro w k C R vl list first hks hXs hc hl hlX hm hmX hb hbX hf hfX hy hyX hlen hrl hpart
 have hsl:=RowOk.sl hl
 obtain ⟨a,n,c,rfl⟩:=hsl.shape
 have hcap:n ≤ c:=RowOk.cap hl
 have hn:=hsl.le i1_len (by omega)
 subst hn
 have hmlt:=World.block_lt_of_cell? w _ hm
 have hblt:=World.block_lt_of_cell? w _ hb
 have hflt:=World.block_lt_of_cell? w _ hf
 have hylt:=World.block_lt_of_cell? w _ hy
 have e1:((list.length:Int) = (many:Int)) = False:=eq_false (by omega)
 have dn:∀ (g:Nat) (xs:List Value),det0 g xs = none:=fun _ _=>rfl
 have hT:=Tryz.call147
 obtain ⟨B0,hB0⟩:∃ B0,[HO.ro (.row (.slice a list.length c) 3 1 (ints list))] = B0:=⟨_,rfl⟩
 refine walkZ8 (H0:=consu J (some k) C R :: B0) _ [] pl147 (det0_ok _ _) Tryz.func147 rfl Tryz.ntmps147 res147 (by kernel_rfl) ⟨?_,?_,?_⟩ ?_
 ·intro h hh
  subst hB0
  simp only [List.mem_cons,List.not_mem_nil,or_false] at hh
  rcases hh with rfl | rfl
  ·exact hc
  ·exact hl
 ·intro h hh b
  subst hB0
  simp only [List.mem_cons,List.not_mem_nil,or_false] at hh
  rcases hh with rfl | rfl
  ·exact ⟨fun h=>h.elim .inl fun h=>.inr (.inl h),id⟩
  ·exact ⟨fun h=>.inr (.inr h),fun h=>h.elim⟩
 ·subst hB0
  refine List.pairwise_cons.2 ⟨fun h hh b hb hb'=>?_,List.pairwise_singleton _ _⟩
  rw [List.mem_singleton] at hh
  subst hh
  exact ⟨(hlX b hb').1,id⟩
 simp (config := { maxSteps := 4000000 }) only [↓sxw,sxw,tf147,sxu,sxl,sxm,simprocAttr]
 refine ld_old hm hmX ?_
 simp (config := { maxSteps := 4000000 }) only [↓sxw,sxw,tf147,sxu,sxl,sxm,simprocAttr,e1]
 refine loop_constH _ (HImp.refl _ _) [(8,9),(18,36)] (fun i:Nat=>[(8,.bool false),(9,I i)])
  (fun i H1=>i ≤ below ∧ ∃ k1 C1 R1,k1 + (cmb (r + 1) ((idx below).drop i)).length = k + (cmb (r + 1) ((idx below).drop first)).length ∧ tailAt all ((cmb (r + 1) ((idx below).drop i)).map (list ++ ·)) k1 ∧ H1 = consu J (some k1) C1 R1 :: B0) (fun i=>below - i) first ?_ ⟨hrl,k,C,R,rfl,hpart,rfl⟩ ?_
 ·simp (config := { maxSteps := 4000000 }) only [↓sxw,sxw,tf147,sxu,sxl,sxm,simprocAttr]
  try simp
 rintro i H1 g1 ⟨hi,k1,C1,R1,hk1,hp1,rfl⟩
 by_cases hin:i = below
 ·have e7:((i:Int) < (below:Int)) = False:=eq_false (by omega)
  rw [List.drop_of_length_le (by rw [idx_len]; omega),cmb,List.length_nil,Nat.add_zero] at hk1
  refine ⟨?_⟩
  simp (config := { maxSteps := 4000000 }) only [↓sxw,sxw,tf147,sxu,sxl,sxm,simprocAttr]
  refine ld_old hb hbX ?_
  simp (config := { maxSteps := 4000000 }) only [↓sxw,sxw,tf147,sxu,sxl,sxm,simprocAttr,e7]
  exact ⟨true,C1,R1,rfl,by rw [hk1]; exact List.mem_cons_self⟩
 have e7:((i:Int) < (below:Int)) = True:=eq_true (by omega)
 have e8:wr (i + 1) = ((i + 1:Nat):Int):=(wrap_id (by omega)).trans (by omega)
 have hil:i < (idx below).length:=by rw [idx_len]; omega
 rw [cmb_drop r hil,idx_get hil] at hk1 hp1
 rw [List.map_append] at hp1
 have hpl:=tailAt_left hp1
 have hpr:=tailAt_right hp1
 rw [List.map_map] at hpl
 rw [List.length_append,List.length_map] at hk1
 rw [List.length_map,List.length_map] at hpr
 obtain ⟨x,hx⟩:∃ x:Int,(i:Int) = x:=⟨_,rfl⟩
 have hfun:((list ++ ·) ∘ ((i:Int) :: ·):List Int → List Int) = ((list ++ [(i:Int)]) ++ ·):=by
  funext y
  simp
 rw [hfun] at hpl
 have hcall:∀ (ad2:Addr) (c2:Nat) (H:List HO) (kont:Value → List HO → Prop),(∀ b,(Value.slice (some ad2) (list.length + 1) c2).ownBlock = some b → w.heap.size ≤ b) →
   HImp ⟨w,C⟩ H ([consu J (some k1) C1 R1,.row (.slice (some ad2) (list.length + 1) c2) 3 1 (ints (list ++ [(i:Int)]))] ++ B0) → (∀ v N,FrP8 J (k1 + (cmb r ((idx below).drop (i + 1))).length) v N → SX.Hid (kont v (N ++ B0))) →
   CallOb Tryz.prog ⟨w,C⟩ false (.fn 147) [.slice (some ad2) (list.length + 1) c2,I ((i + 1:Nat):Int),.pointer (some ⟨bm,0,none⟩),.pointer (some ⟨by_,0,none⟩),.pointer (some ⟨bl,0,none⟩),.pointer (some ⟨bf,0,none⟩)] H kont:=fun ad2 c2 H kont hnew hi hk=>by
  refine CallOb.mutZ C1 (fun b=>C1 b ∨ R1 b ∨ (Value.slice (some ad2) (list.length + 1) c2).ownBlock = some b) hi (fun b hb=>⟨_,List.mem_cons_self,hb⟩) (fun b hb=>?_) (fun w' hp=>?_) hk
  ·rcases hb with hb | hb | hb
   ·exact ⟨_,List.mem_cons_self,.inl hb⟩
   ·exact ⟨_,List.mem_cons_self,.inr hb⟩
   ·exact ⟨_,List.mem_cons_of_mem _ List.mem_cons_self,hb⟩
  have hm1:consu J (some k1) C1 R1 ∈ [consu J (some k1) C1 R1,HO.row (.slice (some ad2) (list.length + 1) c2) 3 1 (ints (list ++ [(i:Int)]))] ++ B0:=List.mem_cons_self
  have hm2:HO.row (.slice (some ad2) (list.length + 1) c2) 3 1 (ints (list ++ [(i:Int)])) ∈ [consu J (some k1) C1 R1,HO.row (.slice (some ad2) (list.length + 1) c2) 3 1 (ints (list ++ [(i:Int)]))] ++ B0:=List.mem_cons_of_mem _ List.mem_cons_self
  have hold:∀ b,C1 b → C b ∨ w.heap.size ≤ b:=fun b hb=>hp.old _ hm1 b hb
  have hnd:=List.pairwise_cons.1 hp.nd
  refine ih w' k1 C1 R1 _ (list ++ [(i:Int)]) (i + 1) (hp.ext.into hks hXs) (fun b hb=>(hold b hb).elim (hXs b) fun h=>.inr (Nat.le_trans hks.size h)) (hp.ok _ hm1) (hp.ok _ hm2) (fun b hb=>⟨fun hC=>(hnd.1 _ List.mem_cons_self b (.inl hC) hb).1 hC,Nat.le_trans hks.size (hnew b hb)⟩)
   ?_ ?_ ?_ ?_ ?_ ?_ ?_ ?_ (by rw [List.length_append,List.length_singleton]; omega) (by omega) hpl
  ·exact (World.cell?_of_block (w:=w) (hp.ext.block bm hmlt hmX)).trans hm
  ·exact fun h=>(hold bm h).elim hmX fun h=>absurd hmlt (Nat.not_lt.2 h)
  ·exact (World.cell?_of_block (w:=w) (hp.ext.block bl hblt hbX)).trans hb
  ·exact fun h=>(hold bl h).elim hbX fun h=>absurd hblt (Nat.not_lt.2 h)
  ·exact (World.cell?_of_block (w:=w) (hp.ext.block bf hflt hfX)).trans hf
  ·exact fun h=>(hold bf h).elim hfX fun h=>absurd hflt (Nat.not_lt.2 h)
  ·exact (World.cell?_of_block (w:=w) (hp.ext.block by_ hylt hyX)).trans hy
  ·exact fun h=>(hold by_ h).elim hyX fun h=>absurd hylt (Nat.not_lt.2 h)
 have hend:∀ (N:List HO) C2 R2,consu J (some (k1 + (cmb r ((idx below).drop (i + 1))).length)) C2 R2 ∈ N → ∃ H3,HImp ⟨w,C⟩ (N ++ B0) H3 ∧ (i + 1 ≤ below ∧ ∃ k1 C1 R1,k1 + (cmb (r + 1) ((idx below).drop (i + 1))).length = k + (cmb (r + 1) ((idx below).drop first)).length ∧ tailAt all ((cmb (r + 1) ((idx below).drop (i + 1))).map (list ++ ·)) k1 ∧ H3 = consu J (some k1) C1 R1 :: B0):=fun N C2 R2 hm=>
  ⟨_,HImp.append (HImp.pick hm),by omega,_,C2,R2,by omega,hpr,rfl⟩
 cases a with
 | none=>
  have hl0:list = []:=ints_nil8 (sl_nonil8 hsl)
  subst hl0
  simp only [List.length_nil,Nat.zero_add,List.nil_append] at hcall
  refine ⟨?_⟩
  simp (config := { maxSteps := 4000000 }) only [↓sxw,sxw,tf147,sxu,sxl,sxm,simprocAttr]
  refine ld_old hb hbX ?_
  simp (config := { maxSteps := 4000000 }) only [↓sxw,sxw,tf147,sxu,sxl,sxm,simprocAttr,e7,e8,pl147_lk,pl147_6]
  first | refine ⟨by simp,by simp,by simp,by simp,?_⟩ | refine ⟨by omega,?_⟩
  refine ld_old hf hfX ?_
  unfold growC
  simp (config := { maxSteps := 4000000 }) only [↓sxw,sxw,tf147,sxu,sxl,sxm,simprocAttr,pl147_lk,pl147_6]
  intro b
  refine app_nilN (f:=i1) (i:Int) i1_len i1_one (by decide) fun ad2 c2 hnew=>?_
  simp (config := { maxSteps := 4000000 }) only [↓sxw,sxw,tf147,sxu,sxl,sxm,simprocAttr,hT,dn,pl147_lk,pl147_6]
  refine ⟨hT,hcall ad2 c2 _ _ hnew (HImp.swap _ _ _ _) ?_⟩
  rintro v N ⟨t,C2,R2,rfl,hm⟩
  cases t with
  | false=>
   refine ⟨?_⟩
   simp (config := { maxSteps := 4000000 }) only [↓sxw,sxw,tf147,sxu,sxl,sxm,simprocAttr,pl147_lk,pl147_6]
   exact ⟨false,C2,R2,rfl,List.mem_append_left _ hm⟩
  | true=>
   obtain ⟨H3,h1,h2⟩:=hend N C2 R2 hm
   refine ⟨?_⟩
   simp (config := { maxSteps := 4000000 }) only [↓sxw,sxw,tf147,sxu,sxl,sxm,simprocAttr,e8,pl147_lk,pl147_6]
   exact ⟨i + 1,H3,rfl,h1,h2,by omega⟩
 | some adl=>
  refine ⟨?_⟩
  simp (config := { maxSteps := 4000000 }) only [↓sxw,sxw,tf147,sxu,sxl,sxm,simprocAttr]
  refine ld_old hb hbX ?_
  simp (config := { maxSteps := 4000000 }) only [↓sxw,sxw,tf147,sxu,sxl,sxm,simprocAttr,e7,e8,pl147_lk,pl147_6]
  refine ⟨by omega,by omega,by omega,by omega,?_⟩
  refine ld_old hf hfX ?_
  unfold growC
  simp (config := { maxSteps := 4000000 }) only [↓sxw,sxw,tf147,sxu,sxl,sxm,simprocAttr,pl147_lk,pl147_6]
  intro b
  rw [show (if list.length = 0 then some adl else some (adl.add 0)) = some (if list.length = 0 then adl else adl.add 0) by split <;> rfl,Nat.sub_zero]
  refine app_roN (f:=i1) (l:=list) (m:=[(i:Int)]) i1_len (by simp) (fun w' hp=>?_) (fun w' hp=>row_hp List.mem_cons_self hp) (by simp only [List.length_cons,List.length_nil]; omega) fun b2 c2 hnew=>?_
  ·exact sl_full8 (ro_hp (E:=3) (v:=.slice (some adl) list.length c) (sz:=1) (xs:=ints list) (by rw [← hB0]; simp) hp)
  simp (config := { maxSteps := 4000000 }) only [↓sxw,sxw,tf147,sxu,sxl,sxm,simprocAttr,hT,dn,pl147_lk,pl147_6]
  refine ⟨hT,hcall ⟨b2,0,none⟩ c2 _ _ (fun b hb=>?_) ((HImp.tail2 _ _ _ _).trans (HImp.swap _ _ _ _)) ?_⟩
  ·have h0:b2 = b:=by simpa [Value.ownBlock] using hb
   have h1:w.heap.size ≤ b2:=hnew
   omega
  rintro v N ⟨t,C2,R2,rfl,hm⟩
  cases t with
  | false=>
   refine ⟨?_⟩
   simp (config := { maxSteps := 4000000 }) only [↓sxw,sxw,tf147,sxu,sxl,sxm,simprocAttr,pl147_lk,pl147_6]
   exact ⟨false,C2,R2,rfl,List.mem_append_left _ hm⟩
  | true=>
   obtain ⟨H3,h1,h2⟩:=hend N C2 R2 hm
   refine ⟨?_⟩
   simp (config := { maxSteps := 4000000 }) only [↓sxw,sxw,tf147,sxu,sxl,sxm,simprocAttr,e8,pl147_lk,pl147_6]
   exact ⟨i + 1,H3,rfl,h1,h2,by omega⟩
theorem choices2_it (w:World) (bl bm:Nat) (below many:Nat) (hmany:many ≤ 1000) (hll:below ≤ 1000) (hbl:w.cell? ⟨bl,0,none⟩ = some (I below)) (hbm:w.cell? ⟨bm,0,none⟩ = some (I many)):
  Iter Tryz.prog 146 [] [.pointer (some ⟨bm,0,none⟩),.pointer (some ⟨bl,0,none⟩)] (cmb many (idx below)).length (lsArg (cmb many (idx below))) (fun _=>False) (fun x=>x = bl ∨ x = bm) w:=by
 refine walkIterR _ [3,4] [] (fun _ _=>det0_ok _ _) Tryz.func146 rfl Tryz.ntmps146 res146 (by kernel_rfl) fun y J C R hRs hH=>?_
 have hlX:=hRs bl (.inl rfl)
 have hmX:=hRs bm (.inr rfl)
 have dn:∀ (g:Nat) (xs:List Value),det0 g xs = none:=fun _ _=>rfl
 have hmlt:=World.block_lt_of_cell? w _ hbm
 have hllt:=World.block_lt_of_cell? w _ hbl
 simp (config := { maxSteps := 4000000 }) only [↓sxw,sxw,tf146,sxu,sxl,sxm,simprocAttr,dn]
 intro b3 b4
 refine wr_cell (A:=[]) rfl (by simp) ?_
 simp (config := { maxSteps := 4000000 }) only [↓sxw,sxw,tf146,sxu,sxl,sxm,simprocAttr,dn]
 refine ld_cell (o:=0) List.mem_cons_self rfl ?_
 simp (config := { maxSteps := 4000000 }) only [↓sxw,sxw,tf146,sxu,sxl,sxm,simprocAttr,dn]
 obtain ⟨G4,hG4⟩:∃ g,HO.cells b4 210 [growC bm b3 bl b4] = g:=⟨_,rfl⟩
 obtain ⟨G3,hG3⟩:∃ g,HO.cells b3 192 [yldC y] = g:=⟨_,rfl⟩
 refine CallOb.mutZ (A:=[consu J (some 0) C R,.row (.slice none 0 0) 3 1 (ints [])]) (B:=[G4,G3]) (Post:=FrP8 J (0 + (cmb many (idx below)).length)) C (fun b=>C b ∨ R b ∨ (Value.slice none 0 0).ownBlock = some b) (by
  rw [← hG4,← hG3]
  refine (HImp.nilRow _ _ 3 1).trans (HImp.perm ?_)
  exact List.perm_append_comm (l₁:=[_,_,_]) (l₂:=[_])) (fun b hb=>⟨_,List.mem_cons_self,hb⟩) (fun b hb=>?_) (fun w' hp=>?_) ?_
 ·rcases hb with hb | hb | hb
  ·exact ⟨_,List.mem_cons_self,.inl hb⟩
  ·exact ⟨_,List.mem_cons_self,.inr hb⟩
  ·simp [Value.ownBlock] at hb
 ·have hnd:=List.pairwise_cons.1 hp.nd
  have hy4:w'.cell? ⟨b4,0,none⟩ = some (growC bm b3 bl b4):=cells_hp (T:=210) (by rw [hG4]; simp) hp
  have hy3:w'.cell? ⟨b3,0,none⟩ = some (yldC y):=cells_hp (T:=192) (by rw [hG3]; simp) hp
  have hn4:¬ C b4:=fun hc=>((hnd.1 (HO.cells b4 210 [growC bm b3 bl b4]) (by rw [hG4]; simp)) b4 (.inl hc) rfl).2 rfl
  have hn3:¬ C b3:=fun hc=>((hnd.1 (HO.cells b3 192 [yldC y]) (by rw [hG3]; simp)) b3 (.inl hc) rfl).2 rfl
  refine choices1_fn (cmb many (idx below)) w C (fun _=>False) y J hH bm b3 bl b4 many below hmany hll many w' 0 C R _ [] 0 hp.ext (fun b hb=>.inl (.inl hb)) (hp.ok _ List.mem_cons_self) (hp.ok _ (List.mem_cons_of_mem _ List.mem_cons_self)) (fun b hb=>by simp [Value.ownBlock] at hb) ((World.cell?_of_block (w:=w) (hp.ext.block bm hmlt hmX)).trans hbm) (fun h=>hmX (.inl h)) ((World.cell?_of_block (w:=w) (hp.ext.block bl hllt hlX)).trans hbl) (fun h=>hlX (.inl h)) hy4 hn4 hy3 hn3 (by simp) (Nat.zero_le _) ?_
  ·have:(cmb many ((idx below).drop 0)).map (([]:List Int) ++ ·) = cmb many (idx below):=by
    rw [show (([]:List Int) ++ ·) = id from by funext x; rfl,List.map_id]
    rfl
   rw [this]
   exact tailAt_all _
 ·rintro r N ⟨t,C2,R2,rfl,hm⟩
  refine ⟨?_⟩
  simp (config := { maxSteps := 4000000 }) only [↓sxw,sxw,tf146,sxu,sxl,sxm,simprocAttr]
  refine ⟨rfl,_,C2,R2,List.mem_append_left _ hm,?_⟩
  cases t with
  | false=>exact .inr rfl
  | true=>exact .inl (congrArg some (Nat.zero_add _))
theorem choices_fn (w:World) (below many:Int):SX.Fn Tryz.prog 96 [I below,I many] w (fun _=>False) fun r N=>∃ bl bm,r = .func (.func 146) #[] #[.pointer (some ⟨bm,0,none⟩),.pointer (some ⟨bl,0,none⟩)] ∧ N = [HO.cells bm 3 [I many],HO.cells bl 3 [I below]]:=by
 refine walk [2,3] [] (det0_ok _ _) Tryz.func96 rfl Tryz.ntmps96 res96 (by kernel_rfl) no_facts ?_
 simp (config := { maxSteps := 4000000 }) only [↓sxw,sxw,tf96,sxu,sxl,sxm,simprocAttr]
 intro b1 b2
 exact ⟨_,_,rfl,by simp⟩
end Go.Proofs.YtljpknnhimkkjaaGreatDoor

namespace Go.Proofs.YtljpknnhimkkjaaGreatDoor
open Go.RowKit Go.SX
set_option maxRecDepth 10000
set_option maxHeartbeats 0
set_option linter.unusedSimpArgs false
set_option linter.unusedVariables false
def offW (n s:Nat):Nat:=(2 ^ n - 1) ^^^ ((2 ^ n - 1) &&& s)
theorem off9:∀ n:Fin 6,∀ s:Fin 32,bitS .andNot .u64 (((2 ^ n.val - 1:Nat)):Int) ((s.val:Nat):Int) = ((offW n.val s.val:Nat):Int):=by decide +kernel
theorem off9_lt:∀ n:Fin 6,∀ s:Fin 32,offW n.val s.val < 32:=by decide +kernel
theorem off9_bit:∀ n:Fin 6,∀ s:Fin 32,∀ i:Fin 5,(offW n.val s.val).testBit i.val = (decide (i.val < n.val) && !s.val.testBit i.val):=by decide +kernel
theorem one9:∀ n:Fin 6,IntKind.u64.wrap (IntKind.u64.wrap (1 * 2 ^ (min n.val IntKind.u64.bits)) - 1) = ((2 ^ n.val - 1:Nat):Int):=by decide +kernel
noncomputable def leaB (x:Cst) (call:Int) (l:List Int):Bool:=covB x call (offW x.bases.length (setI l))
noncomputable def leaO (x:Cst) (call:Int):Option (List Int):=fstL (leaB x call) x.bases.length
def GotR8 (v:Value) (x:List Int) (N:List HO):Prop:=∃ a c,v = .slice a x.length c ∧ (a = none → x = []) ∧ HO.ro (.row (.slice a x.length c) 3 1 (ints x)) ∈ N
theorem GotR8.rdv {v:Value} {x:List Int} {N H:List HO} {w0:Base} (h:GotR8 v x N) (hm:∀ h ∈ N,h ∈ H):Rdv w0 H v 1 (ints x):=by
 obtain ⟨a,c,rfl,h1,h2⟩:=h
 exact ro_rdv (hm _ h2) ⟨_,_,_,rfl,by rw [cat_len i1_len],fun h=>by rw [h1 h]; rfl⟩
theorem GotR8.hp {v:Value} {x:List Int} {N H:List HO} {w0:Base} {w:World} (h:GotR8 v x N) (hm:∀ h ∈ N,h ∈ H) (hp:Hp w0 H w):Sl w v 1 (ints x):=by
 obtain ⟨a,c,rfl,h1,h2⟩:=h
 exact ro_hp (hm _ h2) hp
def LeaP (x:Cst) (call:Int) (r:Value) (N:List HO):Prop:=(calE x call ≠ 0 ∧ r = .tuple #[.slice none 0 0,I (calE x call)]) ∨ (calE x call = 0 ∧ ((leaO x call = none ∧ r = .tuple #[.slice none 0 0,I 3]) ∨ ∃ l v,leaO x call = some l ∧ r = .tuple #[v,I 0] ∧ GotR8 v l N))
theorem find_step8 {P:List Int → Bool} {l:List (List Int)} {k:Nat} {x:List Int} (hx:l[k]? = some x) (h:∀ q y,q < k → l[q]? = some y → P y = false) (hp:P x = true):l.find? P = some x:=by
 obtain ⟨hk,rfl⟩:=List.getElem?_eq_some_iff.1 hx
 refine List.find?_eq_some_iff_getElem.2 ⟨hp,k,hk,rfl,fun j hj=>?_⟩
 rw [h j _ hj (List.getElem?_eq_getElem (by omega))]
 rfl
theorem find_no8 {P:List Int → Bool} {l:List (List Int)} (h:∀ q y,q < l.length → l[q]? = some y → P y = false):l.find? P = none:=by
 refine List.find?_eq_none.2 fun y hy=>?_
 obtain ⟨q,hq,rfl⟩:=List.getElem_of_mem hy
 rw [h q _ hq (List.getElem?_eq_getElem hq)]
 simp
def pl43_10:Plan:=(ones [0,1,2,3,4,5] (.mu 6 .fin))
def pl43:List (Nat × Plan):=[(10,pl43_10)]
theorem pl43_lk:(lkO 10 pl43 = some pl43_10):=rfl
theorem Least_fn (w:World) (hw:Ways w) (v:Value) (x:Cst) (hx:CoOk w v x) (hsm:x.small) (call:Int):
  SX.Fn Tryz.prog 43 [v,I call] w (fun _=>False) (LeaP x call):=by
 obtain ⟨sD,sT,sS,vb,vm,pb,rfl,hC,h2,h3,h4,h5⟩:=hx
 have dn:∀ (g:Nat) (xs:List Value),det0 g xs = none:=fun _ _=>rfl
 have htl:=hsm.cht.2.1
 have hml:=hsm.nm
 have hpl:pb.length = x.bases.length:=by rw [← h2,List.length_map]
 have has:=fun (b3:Nat) (H:List HO) (hm:HO.cells b3 3 [I call] ∈ H) w' (hp:Hp ⟨w,fun _=>False⟩ H w')=>ask_fn w' (hw.hp hp) sD sT sS vb vm x pb (hC.hp hp) h2 (h3.hp (fun _ _=>id) hp) (fun p hm=>(h4 p hm).hp hp) (h5.hp (fun _ _=>id) hp) hsm 95 [.pointer (some ⟨b3,0,none⟩)] Tryz.call95 (inB call 0 (x.calls - 1)) (fun hok w2 bc bm hco hk=>toldL_fn w2 bc bm b3 sD sT sS vb vm x pb hco call (by
  have h6:w'.cell? ⟨b3,0,none⟩ = some (I call):=by
   rw [cell_of_cells (hp.ok _ hm)]
   rfl
  rw [World.cell?_of_block (w:=w') (hk.block b3 (World.block_lt_of_cell? w' ⟨b3,0,none⟩ h6) id)]
  exact h6) (by have:=hok.cal; omega))
 have hcv:=fun (hok:x.ok) (hc:0 ≤ call ∧ call ≤ 100) (bc bm:Nat) (s:Nat) (hs:s < 32) (K1:List (Int × Value)) (B:List HO) (hm:HO.cells bc 117 (cov sD sT sS vb vm x ++ [.map (some bm)]) ∈ B) (hK:∀ e ∈ K1,RwD x B e) w' (hp:Hp ⟨w,fun _=>False⟩ ([mapO .i64 bm K1] ++ B) w')=>by
  obtain ⟨q1,q2,q3⟩:=tim_at hw hp hm hC h2 h3 h4 h5 hK
  exact covered_fn w' bc bm sD sT sS vb vm x pb q1 hsm hok K1 q2 q3 call hc s hs
 have hE:calE x call = if x.okB then (if inB call 0 (x.calls - 1) then 0 else 1) else 80:=rfl
 unfold LeaP leaO
 obtain ⟨E,hEE⟩:∃ E,calE x call = E:=⟨_,rfl⟩
 have hEz:=fun h:E = 0=>calE_zero (hEE.trans h)
 rw [hEE] at hE ⊢
 obtain ⟨B,hB⟩:∃ B,inB call 0 (x.calls - 1) = B:=⟨_,rfl⟩
 simp only [hB] at has hE
 obtain ⟨aM,nM,cM,rfl⟩:=h5.shape
 have hnM:=h5.le spc_len (by omega)
 subst hnM
 obtain ⟨aB,nB,cB,rfl⟩:=h3.shape
 have hnB:=h3.le bac_len (by omega)
 subst hnB
 unfold AskP at has
 unfold cov at has hcv ⊢
 refine walk [3] pl43 (det0_ok _ _) Tryz.func43 rfl Tryz.ntmps43 res43 (by kernel_rfl) no_facts ?_
 simp (config := { maxSteps := 4000000 }) only [↓sxw,sxw,tf43,sxu,sxl,sxm,simprocAttr,dn]
 intro b3
 refine CallOb.pureH (fun w' hp=>has b3 _ (by simp) w' hp) ?_
 rintro r N (⟨ho,rfl,rfl⟩ | ⟨ho,bc,bm,rfl,rfl⟩)
 ·rw [ho,if_neg Bool.false_ne_true] at hE
  rw [hE]
  refine ⟨?_⟩
  simp (config := { maxSteps := 4000000 }) only [↓sxw,sxw,tf43,sxu,sxl,sxm,simprocAttr,dn]
  first | exact .inl ⟨by decide,rfl⟩ | exact .inl trivial | exact .inl (by decide)
 rw [ho,if_pos rfl] at hE
 have hok:=(Cst.okB_iff x).1 ho
 cases B with
 | false=>
  rw [if_neg Bool.false_ne_true] at hE
  rw [hE]
  refine ⟨?_⟩
  simp (config := { maxSteps := 4000000 }) only [↓sxw,sxw,tf43,sxu,sxl,sxm,simprocAttr,dn]
  first | exact .inl ⟨by decide,rfl⟩ | exact .inl trivial | exact .inl (by decide)
 | true=>
 rw [if_pos rfl] at hE
 have hcz:=hEz hE
 have hcal:=hok.cal
 have hnb:=hok.nb
 rw [hE]
 have hcv:=fun bc bm s hs K1 B hm hK w' hp=>hcv hok (by omega) bc bm s hs K1 B hm hK w' hp
 obtain ⟨nb,hnbe⟩:∃ n,pb.length = n:=⟨_,rfl⟩
 have hnx:x.bases.length = nb:=by omega
 have hnb5:nb ≤ 5:=by omega
 have eW:=one9 ⟨nb,by omega⟩
 simp only [] at eW
 have elen:wr ((nb:Int) + 1) = ((nb + 1:Nat):Int):=(wrap_id (by omega)).trans (by omega)
 obtain ⟨P,hP⟩:∃ P:List Int → Bool,leaB x call = P:=⟨_,rfl⟩
 have hP1:∀ y,P y = covB x call (offW nb (setI y)):=fun y=>by rw [← hP]; unfold leaB; rw [hnx]
 rw [hP,hnx]
 have hfin:(∀ m,m < nb + 1 → (cmb m (idx nb)).find? P = none) → fstL P nb = none:=fun h=>fs_none _ _ h
 have hfou:∀ m y,m < nb + 1 → (∀ m',m' < m → (cmb m' (idx nb)).find? P = none) → (cmb m (idx nb)).find? P = some y → fstL P nb = some y:=fun m y hm h0 h1=>fs_some _ h0 h1 _ hm
 obtain ⟨CC,hCC⟩:∃ C,HO.cells bc 117 [I x.cht.wide,I x.cht.high,sD,sT,sS,.slice aB pb.length cB,.slice aM x.marks.length cM,I x.length,I x.calls,.map (some bm)] = C:=⟨_,rfl⟩
 have hCCn:HO.cells bc 117 [I x.cht.wide,I x.cht.high,sD,sT,sS,.slice aB nb cB,.slice aM x.marks.length cM,I x.length,I x.calls,.map (some bm)] = CC:=by rw [← hCC,hnbe]
 obtain ⟨C3,hC3⟩:∃ C,HO.cells b3 3 [I call] = C:=⟨_,rfl⟩
 refine ⟨?_⟩
 simp (config := { maxSteps := 4000000 }) only [↓sxw,sxw,tf43,sxu,sxl,sxm,simprocAttr,dn]
 refine ld_cella (T:=117) (List.mem_cons_self) rfl ?_
 rw [hnbe]
 simp (config := { maxSteps := 4000000 }) only [↓sxw,sxw,tf43,sxu,sxl,sxm,simprocAttr,eW,dn]
 refine ⟨Int.natCast_nonneg _,?_⟩
 refine ld_cella (T:=117) (List.mem_cons_self) rfl ?_
 simp (config := { maxSteps := 4000000 }) only [↓sxw,sxw,tf43,sxu,sxl,sxm,simprocAttr,elen,dn]
 refine loop_constH (mapO .i64 bm [] :: ([] ++ [CC,C3])) (by rw [← hCCn,← hC3]; exact HImp.swap _ _ _ _) [(9,10),(35,55)] (fun i:Nat=>[(35,I i)]) (fun i H1=>i ≤ nb + 1 ∧ (∀ m,m < i → (cmb m (idx nb)).find? P = none) ∧ ∃ K1 D1,H1 = mapO .i64 bm K1 :: (D1 ++ [CC,C3]) ∧ ∀ e ∈ K1,RwD x D1 e) (fun i=>nb + 1 - i) 0 ?_ ⟨Nat.zero_le _,fun m hm=>by omega,[],[],rfl,fun e he=>(by cases he)⟩ ?_
 ·simp (config := { maxSteps := 4000000 }) only [↓sxw,sxw,tf43,sxu,sxl,sxm,simprocAttr]
  try simp
 rintro i H1 g1 ⟨hi,hno,K1,D1,rfl,hK1⟩
 by_cases hin:i = nb + 1
 ·have e7:((i:Int) < ((nb + 1:Nat):Int)) = False:=eq_false (by omega)
  have hz:=hfin fun m hm=>hno m (by omega)
  refine ⟨?_⟩
  simp (config := { maxSteps := 4000000 }) only [↓sxw,sxw,tf43,sxu,sxl,sxm,simprocAttr,e7,dn]
  first | exact .inr (.inl hz) | exact .inr (.inl ⟨hz,rfl⟩) | exact .inr ⟨rfl,.inl ⟨hz,rfl⟩⟩
 have e7:((i:Int) < ((nb + 1:Nat):Int)) = True:=eq_true (by omega)
 have e8:wr (i + 1) = ((i + 1:Nat):Int):=(wrap_id (by omega)).trans (by omega)
 obtain ⟨all,hall⟩:∃ all,cmb i (idx nb) = all:=⟨_,rfl⟩
 have hmem:∀ y ∈ all,y.Sublist (idx nb):=fun y hy=>(cmb_mem.1 (by rw [hall]; exact hy)).1
 have hCCm:HO.cells bc 117 [I x.cht.wide,I x.cht.high,sD,sT,sS,.slice aB nb cB,.slice aM x.marks.length cM,I x.length,I x.calls,.map (some bm)] ∈ mapO .i64 bm K1 :: (D1 ++ [CC,C3]):=by rw [hCCn]; simp
 refine ⟨?_⟩
 simp (config := { maxSteps := 4000000 }) only [↓sxw,sxw,tf43,sxu,sxl,sxm,simprocAttr,e7,dn]
 refine ld_cella (T:=117) hCCm rfl ?_
 simp (config := { maxSteps := 4000000 }) only [↓sxw,sxw,tf43,sxu,sxl,sxm,simprocAttr,dn]
 refine CallOb.pureH (fun w' hp=>choices_fn w' nb i) ?_
 rintro r N2 ⟨bl,bk,rfl,rfl⟩
 refine ⟨?_⟩
 simp (config := { maxSteps := 4000000 }) only [↓sxw,sxw,tf43,sxu,sxl,sxm,simprocAttr,dn]
 refine range_introH Tryz.call146 all.length (lsArg all) [HO.cells bk 3 [I i],HO.cells bl 3 [I nb]] (mapO .i64 bm K1 :: (D1 ++ [CC,C3])) (fun k L' H'=>(∃ K2 D2,H' = mapO .i64 bm K2 :: (D2 ++ [CC,C3]) ∧ ∀ e ∈ K2,RwD x D2 e) ∧ L' = [(29,[I x.cht.wide,I x.cht.high,sD,sT,sS,.slice aB nb cB,.slice aM x.marks.length cM,I x.length,I x.calls]),(22,[.slice none 0 0]),(31,[I 0]),(112,[.pointer (some ⟨bc,0,none⟩)]),(152,[.int .u64 ((2 ^ nb - 1:Nat):Int)])] ∧ ∀ q y,q < k → all[q]? = some y → P y = false) (fun _=>False) (fun x=>x = bl ∨ x = bk) (HImp.refl _ _) (fun b h=>h.elim) (fun b hb=>.inr ?_) (fun w' hp=>by rw [← hall]; exact choices2_it w' bl bk nb i (by omega) (by omega) (cells_hp (T:=3) (by simp) hp) (cells_hp (T:=3) (by simp) hp)) ⟨⟨K1,D1,rfl,hK1⟩,rfl,fun q y hq=>by omega⟩ ?_ ?_ ?_
 ·rcases hb with rfl | rfl
  ·exact ⟨HO.cells b 3 [I nb],by simp,rfl⟩
  ·exact ⟨HO.cells b 3 [I i],by simp,rfl⟩
 ·rintro k vs F ⟨y,a1,c1,h1,rfl,h2,rfl⟩
  rfl
 ·rintro k vs F L' H' hk ⟨y,a1,c1,hy,rfl,hy0,rfl⟩ hL ⟨⟨K2,D2,rfl,hK2⟩,rfl,hq⟩
  have hsub:=hmem y (List.mem_of_getElem? hy)
  have hyl:=sub_len hsub
  have hyin:∀ j ∈ y,-1 ≤ j ∧ j < 5:=fun j hj=>by
   have:=idx_mem.1 (hsub.subset hj)
   omega
  have hs32:setI y < 32:=by
   have:=setI_lt y hyin y.length
   rwa [List.take_length] at this
  have eo:=off9 ⟨nb,by omega⟩ ⟨setI y,hs32⟩
  have hlt:=off9_lt ⟨nb,by omega⟩ ⟨setI y,hs32⟩
  simp only [] at eo hlt
  have hPy:=hP1 y
  have hcv:=hcv bc bm (offW nb (setI y)) hlt K2
  obtain ⟨CB,hCB⟩:∃ b,covB x call (offW nb (setI y)) = b:=⟨_,rfl⟩
  rw [hCB] at hPy
  simp only [hCB] at hcv
  have hse:=fun (H:List HO) (hm:HO.ro (.row (.slice a1 y.length c1) 3 1 (ints y)) ∈ H) w' (hp:Hp ⟨w,fun _=>False⟩ H w')=>fset_fn w' _ y (ro_hp hm hp) (by omega) hyin
  refine ⟨?_⟩
  simp (config := { maxSteps := 4000000 }) only [↓sxw,sxw,tf43,sxu,sxl,sxm,simprocAttr,dn,pl43_lk,pl43_10]
  refine ld_cell (T:=3) (cs:=[I call]) (by rw [hC3]; simp) rfl ?_
  simp (config := { maxSteps := 4000000 }) only [↓sxw,sxw,tf43,sxu,sxl,sxm,simprocAttr,dn]
  refine CallOb.pureH (fun w' hp=>hse _ (by simp) w' hp) ?_
  rintro r N3 rfl
  refine ⟨?_⟩
  simp (config := { maxSteps := 4000000 }) only [↓sxw,sxw,tf43,sxu,sxl,sxm,simprocAttr,eo,dn]
  obtain ⟨YY,hYY⟩:∃ g,HO.ro (.row (.slice a1 y.length c1) 3 1 (ints y)) = g:=⟨_,rfl⟩
  refine CallOb.mutH (A:=[mapO .i64 bm K2]) (B:=YY :: (D2 ++ [CC,C3])) ((HImp.app _ _ _).trans (by rw [← hYY]; exact HImp.swap _ _ _ _)) fps_map (fun w' hp=>by rw [fpsx_map]; exact hcv _ (by rw [← hCC]; simp) (fun e he=>(hK2 e he).mono (by simp +contextual)) w' hp) ?_ (Post:=TimP x bm K2 fun r _=>r = .bool CB)
  rintro r N4 ⟨K3,D3,rfl,hK3,rfl⟩
  have hK4:∀ e ∈ K3,RwD x (D3 ++ D2) e:=fun e he=>by
   rcases hK3 e he with h | h
   ·exact (hK2 e h).mono fun g hg=>List.mem_append_right _ hg
   ·exact h.mono fun g hg=>List.mem_append_left _ hg
  have hsubl:(mapO .i64 bm K3 :: ((D3 ++ D2) ++ [CC,C3])).Sublist (mapO .i64 bm K3 :: (D3 ++ YY :: (D2 ++ [CC,C3]))):=by
   rw [List.append_assoc]
   exact ((List.Sublist.refl D3).append (List.sublist_cons_self YY _)).cons_cons _
  cases CB with
  | true=>
   have hz:=hfou i y (by omega) hno (by rw [hall]; exact find_step8 hy hq hPy)
   refine ⟨?_⟩
   simp (config := { maxSteps := 4000000 }) only [↓sxw,sxw,tf43,sxu,sxl,sxm,simprocAttr,dn]
   refine ⟨_,HImp.refl _ _,?_⟩
   have hG:GotR8 (.slice a1 y.length c1) y (mapO .i64 bm K3 :: (D3 ++ YY :: (D2 ++ [CC,C3]))):=⟨a1,c1,rfl,hy0,by rw [hYY]; simp⟩
   first | exact .inr (.inr ⟨y,_,hz,rfl,hG⟩) | exact .inr ⟨rfl,.inr ⟨y,_,hz,rfl,hG⟩⟩ | exact .inr (.inr ⟨y,_,hz,hG⟩)
  | false=>
   refine ⟨?_⟩
   simp (config := { maxSteps := 4000000 }) only [↓sxw,sxw,tf43,sxu,sxl,sxm,simprocAttr,dn]
   refine ⟨_,HImp.sub hsubl,⟨K3,D3 ++ D2,rfl,hK4⟩,fun q z hqk hz=>?_⟩
   by_cases e:q = k
   ·subst e
    rw [hy] at hz
    cases hz
    exact hPy
   ·exact hq q z (by omega) hz
 ·rintro L' H' hL ⟨⟨K2,D2,rfl,hK2⟩,rfl,hq⟩
  have hz:=find_no8 hq
  rw [← hall] at hz
  refine ⟨?_⟩
  simp (config := { maxSteps := 4000000 }) only [↓sxw,sxw,tf43,sxu,sxl,sxm,simprocAttr,e8,dn]
  refine ⟨i + 1,_,rfl,HImp.refl _ _,⟨by omega,fun m hm=>?_,K2,D2,rfl,hK2⟩,by omega⟩
  by_cases e:m = i
  ·subst e
   exact hz
  ·exact hno m (by omega)
end Go.Proofs.YtljpknnhimkkjaaGreatDoor

namespace Go.Proofs.YtljpknnhimkkjaaGreatDoor
open Go.RowKit Go.SX
set_option maxRecDepth 10000
set_option maxHeartbeats 0
set_option linter.unusedSimpArgs false
set_option linter.unusedVariables false
theorem basB_len {n:Int}:∀ {l:List Int} {last:Int},basB n last l = true → last ≤ n - 1 → (l.length:Int) ≤ n - 1 - last
 | [],last,_,h=>by simp only [List.length_nil]; omega
 | y :: l,last,h,h2=>by
  rw [basB,Bool.and_eq_true,inB_iff] at h
  have:=basB_len h.2 h.1.2
  simp only [List.length_cons]
  omega
theorem idx_drop {n i:Nat} (h:i < n):(idx n).drop i = (i:Int) :: (idx n).drop (i + 1):=by
 rw [List.drop_eq_getElem_cons (by rw [idx_len]; exact h),idx_get]
theorem basB_sub {n:Nat}:∀ {l:List Int} {last:Int},-1 ≤ last → basB n last l = true → l.Sublist ((idx n).drop (last + 1).toNat)
 | [],_,_,_=>List.nil_sublist _
 | y :: l,last,h0,h=>by
  rw [basB,Bool.and_eq_true,inB_iff] at h
  have h1:=basB_sub (by omega) h.2
  obtain ⟨k,rfl⟩:∃ k:Nat,y = k:=⟨y.toNat,by omega⟩
  rw [show ((k:Int) + 1).toNat = k + 1 by omega] at h1
  have h2:((idx n).drop k).Sublist ((idx n).drop (last + 1).toNat):=by
   rw [show k = (last + 1).toNat + (k - (last + 1).toNat) by omega,← List.drop_drop]
   exact List.drop_sublist _ _
  rw [idx_drop (by omega)] at h2
  exact (h1.cons_cons _).trans h2
theorem basB_idx {n:Nat} {l:List Int} (h:basB n (-1) l = true):l.Sublist (idx n):=by
 have:=basB_sub (by omega) h
 simpa using this
def pl29_4:Plan:=(ones [0,1,2,3,4,5,6,7,8,9,10,11,12,13,14,15,16,17,18,19,20,21,22,23,24,25] .fin)
def pl29:List (Nat × Plan):=[(4,pl29_4)]
theorem pl29_lk:(lkO 4 pl29 = some pl29_4):=rfl
theorem arebases_fn (w:World) (v:Value) (x:Cst) (hx:CoOk w v x) (hnb:x.bases.length ≤ 20) (vl:Value) (l:List Int) (hl:Sl w vl 1 (ints l)):SX.Fn Tryz.prog 29 [v,vl] w (fun _=>False) fun r N=>r = .bool (basB x.bases.length (-1) l):=by
 obtain ⟨sD,sT,sS,vb,vm,pb,rfl,hC,h2,h3,h4,h5⟩:=hx
 obtain ⟨o1,o2,o3,o4,o5⟩:=co_one ⟨sD,sT,sS,vb,vm,pb,rfl,hC,h2,h3,h4,h5⟩
 have hpl:pb.length = x.bases.length:=by rw [← h2,List.length_map]
 obtain ⟨aB,nB,cB,rfl⟩:=h3.shape
 have hn4:=h3.le bac_len (by omega)
 subst hn4
 obtain ⟨a,n,c,rfl⟩:=hl.shape
 have hn:=hl.le i1_len (by omega)
 subst hn
 have hr:=fun H=>hl.rd0 H
 rw [← hpl]
 have e1:wr ((pb.length:Int) - 1) = (pb.length:Int) - 1:=wrap_id (by omega)
 obtain ⟨D,hD⟩:∃ D,basB pb.length (-1) l = D:=⟨_,rfl⟩
 rw [hD]
 obtain ⟨LS,hL0,hLs⟩:∃ LS:Nat → Int,LS 0 = -1 ∧ ∀ i y,l[i]? = some y → LS (i + 1) = y:=by
  refine ⟨fun i=>if i = 0 then -1 else l.getD (i - 1) 0,rfl,fun i y hy=>?_⟩
  show (if i + 1 = 0 then -1 else l.getD (i + 1 - 1) 0) = y
  rw [if_neg (by omega),Nat.add_sub_cancel,List.getD_eq_getElem?_getD,hy]
  rfl
 unfold cov
 refine walk [] pl29 (detV_ok _ _) Tryz.func29 rfl Tryz.ntmps29 res29 (by kernel_rfl) no_facts ?_
 simp (config := { maxSteps := 4000000 }) only [↓sxw,sxw,tf29,sxu,sxl,sxm,simprocAttr,o1,o2,o3,o4,o5]
 refine loop_constH [] (HImp.nil _ _) [(4,37)] (fun i:Nat=>[(5,I i)]) (fun i H1=>i ≤ l.length ∧ H1 = [] ∧ D = basB pb.length (LS i) (l.drop i) ∧ (i:Int) ≤ LS i + 1 ∧ LS i + 1 ≤ pb.length) (fun i=>l.length - i) 0 ?_ ⟨Nat.zero_le _,rfl,by rw [hL0]; exact hD.symm,by rw [hL0]; omega,by rw [hL0]; omega⟩ ?_
 ·simp (config := { maxSteps := 4000000 }) only [↓sxw,sxw,tf29,sxu,sxl,sxm,simprocAttr]
  try simp
 rintro i H1 g1 ⟨hi,rfl,hinv,hb1,hb2⟩
 by_cases hin:i = l.length
 ·have e7:((i:Int) < (l.length:Int)) = False:=eq_false (by omega)
  rw [List.drop_of_length_le (by omega),basB] at hinv
  rw [hinv]
  refine ⟨?_⟩
  simp (config := { maxSteps := 4000000 }) only [↓sxw,sxw,tf29,sxu,sxl,sxm,simprocAttr,e7]
  try rfl
 have e7:((i:Int) < (l.length:Int)) = True:=eq_true (by omega)
 have e8:wr (i + 1) = ((i + 1:Nat):Int):=(wrap_id (by omega)).trans (by omega)
 obtain ⟨y,hy⟩:∃ y,l[i]? = some y:=⟨_,List.getElem?_eq_getElem (by omega)⟩
 have hdr:l.drop i = y :: l.drop (i + 1):=by rw [List.drop_eq_getElem_cons (by omega)]; congr 1; exact Option.some.inj ((List.getElem?_eq_getElem (by omega)).symm.trans hy)
 rw [hdr,basB] at hinv
 have hL1:=hLs i y hy
 obtain ⟨W1,hW1⟩:∃ b,inB y 0 ((pb.length:Int) - 1) = b:=⟨_,rfl⟩
 have hW2:=inB_iff y 0 ((pb.length:Int) - 1)
 rw [hW1] at hW2
 have hW3:=inB_iff y (LS i + 1) ((pb.length:Int) - 1)
 have fin0:inB y (LS i + 1) ((pb.length:Int) - 1) = false → D = false:=fun h=>by rw [hinv,h]; rfl
 have fin1:inB y (LS i + 1) ((pb.length:Int) - 1) = true → D = basB pb.length (LS (i + 1)) (l.drop (i + 1)) ∧ ((i + 1:Nat):Int) ≤ LS (i + 1) + 1 ∧ LS (i + 1) + 1 ≤ pb.length:=fun h=>by
  rw [hinv,h,hL1]
  have:=hW3.1 h
  exact ⟨rfl,by omega,by omega⟩
 cases W1 with
 | false=>
  have hf:D = false:=fin0 (by
   rw [← Bool.not_eq_true]
   intro h
   have:=hW3.1 h
   have:=hW2.2 (by omega)
   cases this)
  rw [hf]
  refine ⟨?_⟩
  simp (config := { maxSteps := 4000000 }) only [↓sxw,sxw,tf29,sxu,sxl,sxm,simprocAttr,e7,pl29_lk,pl29_4]
  first | refine amid (at_1 (hr _) i1_len hy rfl fun ad=>?_) | refine at_1 (hr _) i1_len hy rfl fun ad=>?_ | refine (at_1 (hr _) i1_len hy rfl fun ad=>?_).2.2 | refine (at_1 (hr _) i1_len hy rfl fun ad=>?_).2
  simp (config := { maxSteps := 4000000 }) only [↓sxw,sxw,tf29,sxu,sxl,sxm,simprocAttr,detV_eq,e1,hW1,pl29_lk,pl29_4]
  try rfl
 | true=>
 have hyb:=hW2.1 rfl
 by_cases h0:i = 0
 ·have y4:((i:Int) > 0) = False:=eq_false (by omega)
  obtain ⟨q1,q2,q3⟩:=fin1 (hW3.2 (by rw [h0,hL0]; omega))
  refine ⟨?_⟩
  simp (config := { maxSteps := 4000000 }) only [↓sxw,sxw,tf29,sxu,sxl,sxm,simprocAttr,e7,pl29_lk,pl29_4]
  first | refine amid (at_1 (hr _) i1_len hy rfl fun ad=>?_) | refine at_1 (hr _) i1_len hy rfl fun ad=>?_ | refine (at_1 (hr _) i1_len hy rfl fun ad=>?_).2.2 | refine (at_1 (hr _) i1_len hy rfl fun ad=>?_).2
  simp (config := { maxSteps := 4000000 }) only [↓sxw,sxw,tf29,sxu,sxl,sxm,simprocAttr,detV_eq,e1,hW1,y4,e8,pl29_lk,pl29_4]
  exact ⟨i + 1,_,rfl,HImp.nil _ _,⟨by omega,rfl,q1,q2,q3⟩,by omega⟩
 have y4:((i:Int) > 0) = True:=eq_true (by omega)
 obtain ⟨z,hz⟩:∃ z,l[i - 1]? = some z:=⟨_,List.getElem?_eq_getElem (by omega)⟩
 have hLz:=hLs (i - 1) z hz
 rw [show i - 1 + 1 = i by omega] at hLz
 have e9:wr ((i:Int) - 1) = ((i - 1:Nat):Int):=(wrap_id (by omega)).trans (by omega)
 have e10:(((i - 1:Nat):Int) < (l.length:Int)) = True:=eq_true (by omega)
 by_cases hyz:y ≤ z
 ·have y5:(y ≤ z) = True:=eq_true hyz
  have hf:D = false:=fin0 (by
   rw [← Bool.not_eq_true]
   intro h
   have:=hW3.1 h
   omega)
  rw [hf]
  refine ⟨?_⟩
  simp (config := { maxSteps := 4000000 }) only [↓sxw,sxw,tf29,sxu,sxl,sxm,simprocAttr,e7,pl29_lk,pl29_4]
  first | refine amid (at_1 (hr _) i1_len hy rfl fun ad=>?_) | refine at_1 (hr _) i1_len hy rfl fun ad=>?_ | refine (at_1 (hr _) i1_len hy rfl fun ad=>?_).2.2 | refine (at_1 (hr _) i1_len hy rfl fun ad=>?_).2
  simp (config := { maxSteps := 4000000 }) only [↓sxw,sxw,tf29,sxu,sxl,sxm,simprocAttr,detV_eq,e1,hW1,y4,e7,pl29_lk,pl29_4]
  first | refine amid (at_1 (hr _) i1_len hy rfl fun ad=>?_) | refine at_1 (hr _) i1_len hy rfl fun ad=>?_ | refine (at_1 (hr _) i1_len hy rfl fun ad=>?_).2.2 | refine (at_1 (hr _) i1_len hy rfl fun ad=>?_).2
  simp (config := { maxSteps := 4000000 }) only [↓sxw,sxw,tf29,sxu,sxl,sxm,simprocAttr,e9,e10,e7,pl29_lk,pl29_4]
  first | refine amid (at_1 (hr _) i1_len hz rfl fun ad=>?_) | refine at_1 (hr _) i1_len hz rfl fun ad=>?_ | refine (at_1 (hr _) i1_len hz rfl fun ad=>?_).2.2 | refine (at_1 (hr _) i1_len hz rfl fun ad=>?_).2
  simp (config := { maxSteps := 4000000 }) only [↓sxw,sxw,tf29,sxu,sxl,sxm,simprocAttr,y5,e8,pl29_lk,pl29_4]
  try rfl
 ·have y5:(y ≤ z) = False:=eq_false hyz
  obtain ⟨q1,q2,q3⟩:=fin1 (hW3.2 (by omega))
  refine ⟨?_⟩
  simp (config := { maxSteps := 4000000 }) only [↓sxw,sxw,tf29,sxu,sxl,sxm,simprocAttr,e7,pl29_lk,pl29_4]
  first | refine amid (at_1 (hr _) i1_len hy rfl fun ad=>?_) | refine at_1 (hr _) i1_len hy rfl fun ad=>?_ | refine (at_1 (hr _) i1_len hy rfl fun ad=>?_).2.2 | refine (at_1 (hr _) i1_len hy rfl fun ad=>?_).2
  simp (config := { maxSteps := 4000000 }) only [↓sxw,sxw,tf29,sxu,sxl,sxm,simprocAttr,detV_eq,e1,hW1,y4,e7,pl29_lk,pl29_4]
  first | refine amid (at_1 (hr _) i1_len hy rfl fun ad=>?_) | refine at_1 (hr _) i1_len hy rfl fun ad=>?_ | refine (at_1 (hr _) i1_len hy rfl fun ad=>?_).2.2 | refine (at_1 (hr _) i1_len hy rfl fun ad=>?_).2
  simp (config := { maxSteps := 4000000 }) only [↓sxw,sxw,tf29,sxu,sxl,sxm,simprocAttr,e9,e10,e7,pl29_lk,pl29_4]
  first | refine amid (at_1 (hr _) i1_len hz rfl fun ad=>?_) | refine at_1 (hr _) i1_len hz rfl fun ad=>?_ | refine (at_1 (hr _) i1_len hz rfl fun ad=>?_).2.2 | refine (at_1 (hr _) i1_len hz rfl fun ad=>?_).2
  simp (config := { maxSteps := 4000000 }) only [↓sxw,sxw,tf29,sxu,sxl,sxm,simprocAttr,y5,e8,pl29_lk,pl29_4]
  exact ⟨i + 1,_,rfl,HImp.nil _ _,⟨by omega,rfl,q1,q2,q3⟩,by omega⟩
noncomputable def reaB (x:Cst) (call:Int) (l:List Int):Bool:=(List.range x.marks.length).all fun k=>l.any fun i=>hitB x call k i.toNat
theorem hit_ge {x:Cst} {call:Int} {k i:Nat} {b:Bse} {mc ml:Int} (hb:x.bases[i]? = some b) (hm:x.marks[k]? = some (mc,ml)):hitB x call k i = (decide (0 ≤ arv x b call mc.toNat) && decide (arv x b call mc.toNat ≤ call + ml)):=by
 rw [hit_at hb hm]
 congr 1
 rw [decide_eq_decide]
 have:-1 ≤ arv x b call mc.toNat:=by
  unfold arv
  split
  ·exact arvM_ge _ _ _ _ _
  ·omega
 omega
def pl44_8:Plan:=(ones [0,1,2,3,4,5,6,7,8,9,10,11,12,13,14,15,16,17,18,19,20,21,22,23,24,25,26,27] .fin)
def pl44:List (Nat × Plan):=[(8,pl44_8)]
theorem pl44_lk:(lkO 8 pl44 = some pl44_8):=rfl
theorem reaches_fn (w:World) (v:Value) (x:Cst) (hx:CoOk w v x) (hsm:x.small) (hok:x.ok) (call:Int) (hc:0 ≤ call ∧ call ≤ 100) (aA:Option Addr) (cA:Nat) (ps:List Lm) (hps:ps.map Prod.fst = arvA x call) (hA:Sl w (.slice aA ps.length cA) 1 (cat lmc ps)) (hAr:∀ p ∈ ps,Sl w (lmv p) 1 (ints p.1)) (vl:Value) (l:List Int) (hl:Sl w vl 1 (ints l)) (hll:l.length ≤ 1000) (hlb:∀ i ∈ l,0 ≤ i ∧ i < x.bases.length):
  SX.Fn Tryz.prog 44 [v,.slice aA ps.length cA,I call,vl] w (fun _=>False) fun r N=>r = .bool (reaB x call l):=by
 obtain ⟨sD,sT,sS,vb,vm,pb,rfl,hC,h2,h3,h4,h5⟩:=hx
 obtain ⟨o1,o2,o3,o4,o5⟩:=co_one ⟨sD,sT,sS,vb,vm,pb,rfl,hC,h2,h3,h4,h5⟩
 have hal:=arvA_len hps
 obtain ⟨aM,nM,cM,rfl⟩:=h5.shape
 have hn5:=h5.le spc_len (by omega)
 subst hn5
 obtain ⟨a,n,c,rfl⟩:=hl.shape
 have hn:=hl.le i1_len (by omega)
 subst hn
 have hr:=fun H=>hl.rd0 H
 have hrA:=fun H=>hA.rd0 H
 have hrM:=fun H=>h5.rd0 H
 have hnm:=hsm.nm
 have dn:∀ (g:Nat) (xs:List Value),det0 g xs = none:=fun _ _=>rfl
 obtain ⟨D,hD⟩:∃ D,reaB x call l = D:=⟨_,rfl⟩
 have hD2:D = (List.range x.marks.length).all fun k=>l.any fun i=>hitB x call k i.toNat:=hD.symm
 rw [hD]
 unfold cov
 refine walk [] pl44 (det0_ok _ _) Tryz.func44 rfl Tryz.ntmps44 res44 (by kernel_rfl) no_facts ?_
 simp (config := { maxSteps := 4000000 }) only [↓sxw,sxw,tf44,sxu,sxl,sxm,simprocAttr,o1,o2,o3,o4,o5,dn]
 refine loop_constH [] (HImp.nil _ _) [(8,82)] (fun k:Nat=>[(9,I k)]) (fun k H1=>k ≤ x.marks.length ∧ H1 = [] ∧ D = ((List.range x.marks.length).drop k).all fun k=>l.any fun i=>hitB x call k i.toNat) (fun k=>x.marks.length - k) 0 ?_ ⟨Nat.zero_le _,rfl,hD2⟩ ?_
 ·simp (config := { maxSteps := 4000000 }) only [↓sxw,sxw,tf44,sxu,sxl,sxm,simprocAttr]
  try simp
 rintro k H1 g1 ⟨hk,rfl,hinv⟩
 by_cases hkn:k = x.marks.length
 ·have e7:((k:Int) < (x.marks.length:Int)) = False:=eq_false (by omega)
  rw [List.drop_of_length_le (by rw [List.length_range]; omega)] at hinv
  rw [hinv]
  refine ⟨?_⟩
  simp (config := { maxSteps := 4000000 }) only [↓sxw,sxw,tf44,sxu,sxl,sxm,simprocAttr,e7,dn]
  try rfl
 have e7:((k:Int) < (x.marks.length:Int)) = True:=eq_true (by omega)
 have e8:wr (k + 1) = ((k + 1:Nat):Int):=(wrap_id (by omega)).trans (by omega)
 rw [range_drop (by omega),List.all_cons] at hinv
 obtain ⟨m,hm⟩:∃ m,x.marks[k]? = some m:=⟨_,List.getElem?_eq_getElem (by omega)⟩
 obtain ⟨mc,ml⟩:=m
 have hmk:=hok.mar _ (List.mem_of_getElem? hm)
 simp only [] at hmk
 have eL:wr (call + ml) = call + ml:=wrap_id (by omega)
 obtain ⟨FF,hF0,hFs,hFl⟩:∃ FF:Nat → Bool,FF 0 = false ∧ (∀ j y,l[j]? = some y → FF (j + 1) = (FF j || hitB x call k y.toNat)) ∧ FF l.length = l.any fun i=>hitB x call k i.toNat:=by
  refine ⟨fun j=>(l.take j).any fun i=>hitB x call k i.toNat,rfl,fun j y hy=>?_,?_⟩
  ·show (l.take (j + 1)).any _ = _
   rw [List.take_succ,hy,List.any_append]
   simp
  ·show (l.take l.length).any _ = _
   rw [List.take_length]
 rw [← hFl] at hinv
 refine ⟨?_⟩
 simp (config := { maxSteps := 4000000 }) only [↓sxw,sxw,tf44,sxu,sxl,sxm,simprocAttr,e7,dn]
 refine loop_constH [] (HImp.nil _ _) [(8,8),(10,12),(20,80)] (fun j:Nat=>[(10,.bool (FF j)),(11,I j)]) (fun j H1=>j ≤ l.length ∧ H1 = []) (fun j=>l.length - j) 0 ?_ ⟨Nat.zero_le _,rfl⟩ ?_
 ·simp (config := { maxSteps := 4000000 }) only [↓sxw,sxw,tf44,sxu,sxl,sxm,simprocAttr]
  first | exact ⟨by rw [hF0],rfl⟩ | (rw [hF0]; done) | (rw [hF0]; try simp)
 rintro j H2 g2 ⟨hj,rfl⟩
 by_cases hjn:j = l.length
 ·have f7:((j:Int) < (l.length:Int)) = False:=eq_false (by omega)
  rw [← hjn] at hinv
  obtain ⟨B,hB⟩:∃ B,FF j = B:=⟨_,rfl⟩
  rw [hB] at hinv ⊢
  cases B with
  | false=>
   rw [Bool.false_and] at hinv
   rw [hinv]
   refine ⟨?_⟩
   simp (config := { maxSteps := 4000000 }) only [↓sxw,sxw,tf44,sxu,sxl,sxm,simprocAttr,f7,dn]
   try rfl
  | true=>
   rw [Bool.true_and] at hinv
   refine ⟨?_⟩
   simp (config := { maxSteps := 4000000 }) only [↓sxw,sxw,tf44,sxu,sxl,sxm,simprocAttr,f7,e8,dn]
   exact ⟨k + 1,_,rfl,HImp.nil _ _,⟨by omega,rfl,hinv⟩,by omega⟩
 have f7:((j:Int) < (l.length:Int)) = True:=eq_true (by omega)
 have f8:wr (j + 1) = ((j + 1:Nat):Int):=(wrap_id (by omega)).trans (by omega)
 obtain ⟨y,hy⟩:∃ y,l[j]? = some y:=⟨_,List.getElem?_eq_getElem (by omega)⟩
 have hyb:=hlb y (List.mem_of_getElem? hy)
 have hFj:=hFs j y hy
 obtain ⟨i,rfl⟩:∃ i:Nat,y = i:=⟨y.toNat,by omega⟩
 rw [Int.toNat_natCast] at hFj
 obtain ⟨q,hq⟩:∃ q,ps[i]? = some q:=⟨_,List.getElem?_eq_getElem (by omega)⟩
 obtain ⟨b,hb,hqb⟩:=arvA_at hps hq
 have hql:q.1.length = x.marks.length:=by rw [hqb,arvL_len]
 have hAq:=hAr q (List.mem_of_getElem? hq)
 have hn:q.1[k]? = some (arv x b call mc.toNat):=by rw [hqb]; exact arvL_at hm
 rw [hit_ge hb hm] at hFj
 obtain ⟨nv,hnv⟩:∃ n,arv x b call mc.toNat = n:=⟨_,rfl⟩
 rw [hnv] at hFj hn
 obtain ⟨ql,qa,qc⟩:=q
 unfold lmv at hAq
 simp only [] at hAq hql hn
 have hrq:=fun H=>hAq.rd0 H
 have y1:((i:Int) < 0) = False:=eq_false (by omega)
 have y2:((i:Int) ≥ (ps.length:Int)) = False:=eq_false (by omega)
 have y3:((ql.length:Int) != (x.marks.length:Int)) = false:=by rw [hql]; simp
 have y4:((i:Int) < (ps.length:Int)) = True:=eq_true (by omega)
 have y5:((k:Int) < (ql.length:Int)) = True:=eq_true (by omega)
 cases hfb:FF j with
 | true=>
  rw [hfb,Bool.true_or] at hFj
  refine ⟨?_⟩
  simp (config := { maxSteps := 4000000 }) only [↓sxw,sxw,tf44,sxu,sxl,sxm,simprocAttr,f7,dn,pl44_lk,pl44_8]
  first | refine amid (at_1 (hr _) i1_len hy rfl fun ad=>?_) | refine at_1 (hr _) i1_len hy rfl fun ad=>?_ | refine (at_1 (hr _) i1_len hy rfl fun ad=>?_).2.2 | refine (at_1 (hr _) i1_len hy rfl fun ad=>?_).2
  simp (config := { maxSteps := 4000000 }) only [↓sxw,sxw,tf44,sxu,sxl,sxm,simprocAttr,y1,f7,dn,pl44_lk,pl44_8]
  first | refine amid (at_1 (hr _) i1_len hy rfl fun ad=>?_) | refine at_1 (hr _) i1_len hy rfl fun ad=>?_ | refine (at_1 (hr _) i1_len hy rfl fun ad=>?_).2.2 | refine (at_1 (hr _) i1_len hy rfl fun ad=>?_).2
  simp (config := { maxSteps := 4000000 }) only [↓sxw,sxw,tf44,sxu,sxl,sxm,simprocAttr,y1,y2,f7,dn,pl44_lk,pl44_8]
  first | refine amid (at_1 (hr _) i1_len hy rfl fun ad=>?_) | refine at_1 (hr _) i1_len hy rfl fun ad=>?_ | refine (at_1 (hr _) i1_len hy rfl fun ad=>?_).2.2 | refine (at_1 (hr _) i1_len hy rfl fun ad=>?_).2
  simp (config := { maxSteps := 4000000 }) only [↓sxw,sxw,tf44,sxu,sxl,sxm,simprocAttr,y1,y2,y4,f7,dn,pl44_lk,pl44_8]
  first | refine amid (at_1 (hrA _) lmc_len hq rfl fun ad=>?_) | refine at_1 (hrA _) lmc_len hq rfl fun ad=>?_ | refine (at_1 (hrA _) lmc_len hq rfl fun ad=>?_).2.2 | refine (at_1 (hrA _) lmc_len hq rfl fun ad=>?_).2
  unfold lmv
  simp (config := { maxSteps := 4000000 }) only [↓sxw,sxw,tf44,sxu,sxl,sxm,simprocAttr,y1,y2,y3,f7,dn,pl44_lk,pl44_8]
  first | refine amid (at_1 (hr _) i1_len hy rfl fun ad=>?_) | refine at_1 (hr _) i1_len hy rfl fun ad=>?_ | refine (at_1 (hr _) i1_len hy rfl fun ad=>?_).2.2 | refine (at_1 (hr _) i1_len hy rfl fun ad=>?_).2
  simp (config := { maxSteps := 4000000 }) only [↓sxw,sxw,tf44,sxu,sxl,sxm,simprocAttr,y4,dn]
  first | refine amid (at_1 (hrA _) lmc_len hq rfl fun ad=>?_) | refine at_1 (hrA _) lmc_len hq rfl fun ad=>?_ | refine (at_1 (hrA _) lmc_len hq rfl fun ad=>?_).2.2 | refine (at_1 (hrA _) lmc_len hq rfl fun ad=>?_).2
  unfold lmv
  simp (config := { maxSteps := 4000000 }) only [↓sxw,sxw,tf44,sxu,sxl,sxm,simprocAttr,y5,dn]
  first | refine amid (at_1 (hrq _) i1_len hn rfl fun ad=>?_) | refine at_1 (hrq _) i1_len hn rfl fun ad=>?_ | refine (at_1 (hrq _) i1_len hn rfl fun ad=>?_).2.2 | refine (at_1 (hrq _) i1_len hn rfl fun ad=>?_).2
  simp (config := { maxSteps := 4000000 }) only [↓sxw,sxw,tf44,sxu,sxl,sxm,simprocAttr,f8,dn]
  exact ⟨j + 1,_,by first | exact ⟨by rw [hFj],rfl⟩ | (rw [hFj]; done) | (rw [hFj]; try simp),HImp.nil _ _,⟨by omega,rfl⟩,by omega⟩
 | false=>
 rw [hfb,Bool.false_or] at hFj
 by_cases k1:nv ≥ 0
 case neg=>
  have x1:(nv ≥ 0) = False:=eq_false k1
  rw [decide_eq_false (by omega),Bool.false_and] at hFj
  refine ⟨?_⟩
  simp (config := { maxSteps := 4000000 }) only [↓sxw,sxw,tf44,sxu,sxl,sxm,simprocAttr,f7,dn,pl44_lk,pl44_8]
  first | refine amid (at_1 (hr _) i1_len hy rfl fun ad=>?_) | refine at_1 (hr _) i1_len hy rfl fun ad=>?_ | refine (at_1 (hr _) i1_len hy rfl fun ad=>?_).2.2 | refine (at_1 (hr _) i1_len hy rfl fun ad=>?_).2
  simp (config := { maxSteps := 4000000 }) only [↓sxw,sxw,tf44,sxu,sxl,sxm,simprocAttr,y1,f7,dn,pl44_lk,pl44_8]
  first | refine amid (at_1 (hr _) i1_len hy rfl fun ad=>?_) | refine at_1 (hr _) i1_len hy rfl fun ad=>?_ | refine (at_1 (hr _) i1_len hy rfl fun ad=>?_).2.2 | refine (at_1 (hr _) i1_len hy rfl fun ad=>?_).2
  simp (config := { maxSteps := 4000000 }) only [↓sxw,sxw,tf44,sxu,sxl,sxm,simprocAttr,y1,y2,f7,dn,pl44_lk,pl44_8]
  first | refine amid (at_1 (hr _) i1_len hy rfl fun ad=>?_) | refine at_1 (hr _) i1_len hy rfl fun ad=>?_ | refine (at_1 (hr _) i1_len hy rfl fun ad=>?_).2.2 | refine (at_1 (hr _) i1_len hy rfl fun ad=>?_).2
  simp (config := { maxSteps := 4000000 }) only [↓sxw,sxw,tf44,sxu,sxl,sxm,simprocAttr,y1,y2,y4,f7,dn,pl44_lk,pl44_8]
  first | refine amid (at_1 (hrA _) lmc_len hq rfl fun ad=>?_) | refine at_1 (hrA _) lmc_len hq rfl fun ad=>?_ | refine (at_1 (hrA _) lmc_len hq rfl fun ad=>?_).2.2 | refine (at_1 (hrA _) lmc_len hq rfl fun ad=>?_).2
  unfold lmv
  simp (config := { maxSteps := 4000000 }) only [↓sxw,sxw,tf44,sxu,sxl,sxm,simprocAttr,y1,y2,y3,f7,dn,pl44_lk,pl44_8]
  first | refine amid (at_1 (hr _) i1_len hy rfl fun ad=>?_) | refine at_1 (hr _) i1_len hy rfl fun ad=>?_ | refine (at_1 (hr _) i1_len hy rfl fun ad=>?_).2.2 | refine (at_1 (hr _) i1_len hy rfl fun ad=>?_).2
  simp (config := { maxSteps := 4000000 }) only [↓sxw,sxw,tf44,sxu,sxl,sxm,simprocAttr,y4,dn]
  first | refine amid (at_1 (hrA _) lmc_len hq rfl fun ad=>?_) | refine at_1 (hrA _) lmc_len hq rfl fun ad=>?_ | refine (at_1 (hrA _) lmc_len hq rfl fun ad=>?_).2.2 | refine (at_1 (hrA _) lmc_len hq rfl fun ad=>?_).2
  unfold lmv
  simp (config := { maxSteps := 4000000 }) only [↓sxw,sxw,tf44,sxu,sxl,sxm,simprocAttr,y5,dn]
  first | refine amid (at_1 (hrq _) i1_len hn rfl fun ad=>?_) | refine at_1 (hrq _) i1_len hn rfl fun ad=>?_ | refine (at_1 (hrq _) i1_len hn rfl fun ad=>?_).2.2 | refine (at_1 (hrq _) i1_len hn rfl fun ad=>?_).2
  simp (config := { maxSteps := 4000000 }) only [↓sxw,sxw,tf44,sxu,sxl,sxm,simprocAttr,x1,f8,dn]
  exact ⟨j + 1,_,by first | exact ⟨by rw [hFj],rfl⟩ | (rw [hFj]; done) | (rw [hFj]; try simp),HImp.nil _ _,⟨by omega,rfl⟩,by omega⟩
 have x1:(nv ≥ 0) = True:=eq_true k1
 obtain ⟨B,hB⟩:∃ B,decide (nv ≤ call + ml) = B:=⟨_,rfl⟩
 rw [decide_eq_true k1,Bool.true_and,hB] at hFj
 refine ⟨?_⟩
 simp (config := { maxSteps := 4000000 }) only [↓sxw,sxw,tf44,sxu,sxl,sxm,simprocAttr,f7,dn,pl44_lk,pl44_8]
 first | refine amid (at_1 (hr _) i1_len hy rfl fun ad=>?_) | refine at_1 (hr _) i1_len hy rfl fun ad=>?_ | refine (at_1 (hr _) i1_len hy rfl fun ad=>?_).2.2 | refine (at_1 (hr _) i1_len hy rfl fun ad=>?_).2
 simp (config := { maxSteps := 4000000 }) only [↓sxw,sxw,tf44,sxu,sxl,sxm,simprocAttr,y1,f7,dn,pl44_lk,pl44_8]
 first | refine amid (at_1 (hr _) i1_len hy rfl fun ad=>?_) | refine at_1 (hr _) i1_len hy rfl fun ad=>?_ | refine (at_1 (hr _) i1_len hy rfl fun ad=>?_).2.2 | refine (at_1 (hr _) i1_len hy rfl fun ad=>?_).2
 simp (config := { maxSteps := 4000000 }) only [↓sxw,sxw,tf44,sxu,sxl,sxm,simprocAttr,y1,y2,f7,dn,pl44_lk,pl44_8]
 first | refine amid (at_1 (hr _) i1_len hy rfl fun ad=>?_) | refine at_1 (hr _) i1_len hy rfl fun ad=>?_ | refine (at_1 (hr _) i1_len hy rfl fun ad=>?_).2.2 | refine (at_1 (hr _) i1_len hy rfl fun ad=>?_).2
 simp (config := { maxSteps := 4000000 }) only [↓sxw,sxw,tf44,sxu,sxl,sxm,simprocAttr,y1,y2,y4,f7,dn,pl44_lk,pl44_8]
 first | refine amid (at_1 (hrA _) lmc_len hq rfl fun ad=>?_) | refine at_1 (hrA _) lmc_len hq rfl fun ad=>?_ | refine (at_1 (hrA _) lmc_len hq rfl fun ad=>?_).2.2 | refine (at_1 (hrA _) lmc_len hq rfl fun ad=>?_).2
 unfold lmv
 simp (config := { maxSteps := 4000000 }) only [↓sxw,sxw,tf44,sxu,sxl,sxm,simprocAttr,y1,y2,y3,f7,dn,pl44_lk,pl44_8]
 first | refine amid (at_1 (hr _) i1_len hy rfl fun ad=>?_) | refine at_1 (hr _) i1_len hy rfl fun ad=>?_ | refine (at_1 (hr _) i1_len hy rfl fun ad=>?_).2.2 | refine (at_1 (hr _) i1_len hy rfl fun ad=>?_).2
 simp (config := { maxSteps := 4000000 }) only [↓sxw,sxw,tf44,sxu,sxl,sxm,simprocAttr,y4,dn]
 first | refine amid (at_1 (hrA _) lmc_len hq rfl fun ad=>?_) | refine at_1 (hrA _) lmc_len hq rfl fun ad=>?_ | refine (at_1 (hrA _) lmc_len hq rfl fun ad=>?_).2.2 | refine (at_1 (hrA _) lmc_len hq rfl fun ad=>?_).2
 unfold lmv
 simp (config := { maxSteps := 4000000 }) only [↓sxw,sxw,tf44,sxu,sxl,sxm,simprocAttr,y5,dn]
 first | refine amid (at_1 (hrq _) i1_len hn rfl fun ad=>?_) | refine at_1 (hrq _) i1_len hn rfl fun ad=>?_ | refine (at_1 (hrq _) i1_len hn rfl fun ad=>?_).2.2 | refine (at_1 (hrq _) i1_len hn rfl fun ad=>?_).2
 simp (config := { maxSteps := 4000000 }) only [↓sxw,sxw,tf44,sxu,sxl,sxm,simprocAttr,x1,e7,dn]
 first | refine amid (at_f (hrM _) spc_len hm (o:=1) (x:=I ml) rfl fun ad=>?_) | refine at_f (hrM _) spc_len hm (o:=1) (x:=I ml) rfl fun ad=>?_ | refine (at_f (hrM _) spc_len hm (o:=1) (x:=I ml) rfl fun ad=>?_).2.2 | refine (at_f (hrM _) spc_len hm (o:=1) (x:=I ml) rfl fun ad=>?_).2
 simp (config := { maxSteps := 4000000 }) only [↓sxw,sxw,tf44,sxu,sxl,sxm,simprocAttr,eL,hB,f8,dn]
 exact ⟨j + 1,_,by first | exact ⟨by rw [hFj],rfl⟩ | (rw [hFj]; done) | (rw [hFj]; try simp),HImp.nil _ _,⟨by omega,rfl⟩,by omega⟩
end Go.Proofs.YtljpknnhimkkjaaGreatDoor

namespace Go.Proofs.YtljpknnhimkkjaaGreatDoor
open Go.RowKit Go.SX
set_option maxRecDepth 10000
set_option maxHeartbeats 0
set_option linter.unusedSimpArgs false
set_option linter.unusedVariables false
theorem setI_bit (i:Nat):∀ (l:List Int) (s:Nat),(l.foldl (fun f n=>if 0 ≤ n then f ||| 2 ^ n.toNat else f) s).testBit i = (s.testBit i || decide ((i:Int) ∈ l))
 | [],s=>by simp
 | n :: l,s=>by
  rw [List.foldl_cons,setI_bit i l]
  by_cases hn:0 ≤ n
  ·rw [if_pos hn,Nat.testBit_or,Nat.testBit_two_pow]
   have:decide ((i:Int) ∈ n :: l) = (decide (n.toNat = i) || decide ((i:Int) ∈ l)):=by
    rw [← Bool.decide_or,decide_eq_decide,List.mem_cons]
    constructor
    ·rintro (h | h)
     ·exact .inl (by omega)
     ·exact .inr h
    ·rintro (h | h)
     ·exact .inl (by omega)
     ·exact .inr h
   rw [this,Bool.or_assoc]
  ·rw [if_neg hn]
   have:decide ((i:Int) ∈ n :: l) = decide ((i:Int) ∈ l):=by
    rw [decide_eq_decide,List.mem_cons]
    constructor
    ·rintro (h | h)
     ·omega
     ·exact h
    ·exact .inr
   rw [this]
theorem setI_mem (l:List Int) (i:Nat):(setI l).testBit i = decide ((i:Int) ∈ l):=by
 unfold setI
 rw [setI_bit]
 simp
theorem setI_lt32 {l:List Int} (h:∀ n ∈ l,-1 ≤ n ∧ n < 5):setI l < 32:=by
 have:=setI_lt l h l.length
 rwa [List.take_length] at this
theorem lea_rea {x:Cst} (hnb:x.bases.length ≤ 5) {call:Int} {l:List Int} (hl:∀ i ∈ l,0 ≤ i ∧ i < x.bases.length):leaB x call l = reaB x call l:=by
 have hs:=setI_lt32 (l:=l) fun n hn=>by have:=hl n hn; omega
 unfold leaB reaB covB
 congr 1
 funext k
 unfold rchB
 rw [Bool.eq_iff_iff,List.any_eq_true,List.any_eq_true]
 constructor
 ·rintro ⟨i,hi,h⟩
  have hi:=List.mem_range.1 hi
  have hb:=off9_bit ⟨x.bases.length,by omega⟩ ⟨setI l,hs⟩ ⟨i,by omega⟩
  simp only [] at hb
  rw [hb,setI_mem,decide_eq_true hi,Bool.and_eq_true] at h
  refine ⟨(i:Int),by simpa using h.1,by rw [Int.toNat_natCast]; exact h.2⟩
 ·rintro ⟨i,hi,h⟩
  have h1:=hl i hi
  obtain ⟨n,rfl⟩:∃ n:Nat,i = n:=⟨i.toNat,by omega⟩
  rw [Int.toNat_natCast] at h
  refine ⟨n,List.mem_range.2 (by omega),?_⟩
  have hb:=off9_bit ⟨x.bases.length,by omega⟩ ⟨setI l,hs⟩ ⟨n,by omega⟩
  simp only [] at hb
  rw [hb,setI_mem,decide_eq_true (by omega:n < x.bases.length),decide_eq_true hi,h]
  rfl
theorem coverLeast_fn (w:World) (hw:Ways w) (v:Value) (x:Cst) (hx:CoOk w v x) (mk bs call:Int) (vs:Value) (ls:List Int) (hls:Sl w vs 1 (ints ls)):SX.Fn Tryz.prog 12 [v,.agg #[I mk,I bs,I call,vs]] w (fun _=>False) fun r N=>r = .bool true:=by
 have dn:∀ (g:Nat) (xs:List Value),det0 g xs = none:=fun _ _=>rfl
 have hva:=fun (H:List HO) w' (hp:Hp ⟨w,fun _=>False⟩ H w')=>valid8_fn w' (hw.hp hp) v x (hx.hp hp)
 have hwo:=fun (H:List HO) w' (hp:Hp ⟨w,fun _=>False⟩ H w')=>works8_fn w' (hw.hp hp)
 have har:=fun (hsm:x.small) (H:List HO) w' (hp:Hp ⟨w,fun _=>False⟩ H w')=>Arrivals_fn w' (hw.hp hp) v x (hx.hp hp) hsm call
 have hle:=fun (hsm:x.small) (H:List HO) w' (hp:Hp ⟨w,fun _=>False⟩ H w')=>Least_fn w' (hw.hp hp) v x (hx.hp hp) hsm call
 have hab:=fun (hsm:x.small) (H:List HO) w' (hp:Hp ⟨w,fun _=>False⟩ H w')=>arebases_fn w' v x (hx.hp hp) hsm.nb vs ls (hls.hp (fun _ _=>id) hp)
 have hre:=fun (hsm:x.small) (hok:x.ok) (hc:0 ≤ call ∧ call ≤ 100) (aA:Option Addr) (cA:Nat) (ps:List Lm) (hps:ps.map Prod.fst = arvA x call) (vl:Value) (l:List Int) (hll:l.length ≤ 1000) (hlb:∀ i ∈ l,0 ≤ i ∧ i < x.bases.length) (H:List HO) w' (hp:Hp ⟨w,fun _=>False⟩ H w') (hA:Sl w' (.slice aA ps.length cA) 1 (cat lmc ps)) (hAr:∀ p ∈ ps,Sl w' (lmv p) 1 (ints p.1)) (hl:Sl w' vl 1 (ints l))=>reaches_fn w' v x (hx.hp hp) hsm hok call hc aA cA ps hps hA hAr vl l hl hll hlb
 obtain ⟨o1,o2,o3,o4,o5⟩:∃ sD sT sS vb vm,v = .agg (cov sD sT sS vb vm x).toArray:=by
  obtain ⟨sD,sT,sS,vb,vm,pb,rfl,_⟩:=hx
  exact ⟨sD,sT,sS,vb,vm,rfl⟩
 obtain ⟨sD,sT,sS,vb,vm,pb,rfl,hC,h2,h3,h4,h5⟩:=hx
 have hpl:pb.length = x.bases.length:=by rw [← h2,List.length_map]
 obtain ⟨hD,hT,hS⟩:=hC.parts
 obtain ⟨aD,nD,cD,rfl⟩:=hD.shape
 obtain ⟨aS,nS,cS,rfl⟩:=hS.shape
 obtain ⟨aT,nT,cT,rfl⟩:=hT.shape
 obtain ⟨aB,nB,cB,rfl⟩:=h3.shape
 have hn4:=h3.le bac_len (by omega)
 obtain ⟨aM,nM,cM,rfl⟩:=h5.shape
 subst hn4
 obtain ⟨aV,nV,cV,rfl⟩:=hls.shape
 have hnV:=hls.le i1_len (by omega)
 subst hnV
 unfold VldP at hva
 unfold ArrP at har
 unfold LeaP at hle
 unfold cov at hva har hle hab hre ⊢
 refine walkC [3,11,15] [] [] (det0_ok _ _) Tryz.func12 rfl Tryz.ntmps12 res12 (by kernel_rfl) no_facts ?_
 simp (config := { maxSteps := 4000000 }) only [↓sxw,sxw,tf12,sxu,sxl,sxm,simprocAttr,dn]
 refine cut_constH [(9,30)] (fun b:Bool=>[(30,.bool b)]) (fun b H2=>H2 = [] ∧ (b = false → x.small ∧ x.ok ∧ (0 ≤ call ∧ call < x.calls) ∧ basB x.bases.length (-1) ls = true)) ?_ ?_
 ·refine ⟨?_⟩
  simp (config := { maxSteps := 4000000 }) only [↓sxw,sxw,tf12,sxu,sxl,sxm,simprocAttr,dn]
  refine CallOb.pureH (fun w' hp=>hva _ w' hp) ?_
  rintro r N ⟨b,rfl,hb⟩
  cases b with
  | false=>
   refine ⟨?_⟩
   simp (config := { maxSteps := 4000000 }) only [↓sxw,sxw,tf12,sxu,sxl,sxm,simprocAttr,dn]
   exact ⟨true,_,rfl,HImp.nil _ _,rfl,fun h=>by cases h⟩
  | true=>
  obtain ⟨hsm,hok,_⟩:=hb rfl
  by_cases c1:call < 0
  ·have z1:(call < 0) = True:=eq_true c1
   refine ⟨?_⟩
   simp (config := { maxSteps := 4000000 }) only [↓sxw,sxw,tf12,sxu,sxl,sxm,simprocAttr,z1,dn]
   exact ⟨true,_,rfl,HImp.nil _ _,rfl,fun h=>by cases h⟩
  have z1:(call < 0) = False:=eq_false c1
  by_cases c2:call ≥ x.calls
  ·have z2:(call ≥ x.calls) = True:=eq_true c2
   refine ⟨?_⟩
   simp (config := { maxSteps := 4000000 }) only [↓sxw,sxw,tf12,sxu,sxl,sxm,simprocAttr,z1,z2,dn]
   exact ⟨true,_,rfl,HImp.nil _ _,rfl,fun h=>by cases h⟩
  have z2:(call ≥ x.calls) = False:=eq_false c2
  have hab:=hab hsm
  obtain ⟨BB,hBB⟩:∃ b,basB x.bases.length (-1) ls = b:=⟨_,rfl⟩
  simp only [hBB] at hab
  refine ⟨?_⟩
  simp (config := { maxSteps := 4000000 }) only [↓sxw,sxw,tf12,sxu,sxl,sxm,simprocAttr,z1,z2,dn]
  refine CallOb.pureH (fun w' hp=>hab _ w' hp) ?_
  rintro r N2 rfl
  cases BB with
  | false=>
   refine ⟨?_⟩
   simp (config := { maxSteps := 4000000 }) only [↓sxw,sxw,tf12,sxu,sxl,sxm,simprocAttr,dn]
   exact ⟨true,_,rfl,HImp.nil _ _,rfl,fun h=>by cases h⟩
  | true=>
   refine ⟨?_⟩
   simp (config := { maxSteps := 4000000 }) only [↓sxw,sxw,tf12,sxu,sxl,sxm,simprocAttr,dn]
   exact ⟨false,_,rfl,HImp.nil _ _,rfl,fun _=>⟨hsm,hok,⟨by omega,by omega⟩,hBB⟩⟩
 rintro b H2 g2 ⟨rfl,hb⟩
 cases b with
 | true=>
  refine ⟨?_⟩
  simp (config := { maxSteps := 4000000 }) only [↓sxw,sxw,tf12,sxu,sxl,sxm,simprocAttr,dn]
  refine CallOb.pureH (fun w' hp=>hwo _ w' hp) ?_
  rintro r N rfl
  refine ⟨?_⟩
  simp (config := { maxSteps := 4000000 }) only [↓sxw,sxw,tf12,sxu,sxl,sxm,simprocAttr,dn]
  try rfl
 | false=>
 obtain ⟨hsm,hok,⟨hc0,hc1⟩,hbas⟩:=hb rfl
 have hE:=calE_of hok hc0 hc1
 have har:=har hsm
 have hle:=hle hsm
 have hcal:=hok.cal
 have htl:=hok.cht.2.2.2.1
 have hnb:=hok.nb
 have hre:=hre hsm hok ⟨hc0,by omega⟩
 have hlsub:=basB_idx hbas
 have hlen:=basB_len hbas (by omega)
 have hlb:∀ i ∈ ls,0 ≤ i ∧ i < x.bases.length:=fun i hi=>idx_mem.1 (hlsub.subset hi)
 have hrl:=lea_rea hnb.2 (call:=call) hlb
 rw [hE] at har hle
 refine ⟨?_⟩
 simp (config := { maxSteps := 4000000 }) only [↓sxw,sxw,tf12,sxu,sxl,sxm,simprocAttr,dn]
 refine CallOb.pureH (fun w' hp=>hle _ w' hp) ?_
 rintro r N (⟨h,_⟩ | ⟨_,hL⟩)
 ·exact absurd rfl h
 have hL2:∃ (e:Int) (vl:Value) (ll:List Int),r = .tuple #[vl,I e] ∧ (∃ aL cL,vl = .slice aL ll.length cL) ∧ ((e = 3 ∧ leaO x call = none) ∨ (e = 0 ∧ leaO x call = some ll ∧ GotR8 vl ll N)):=by
  rcases hL with ⟨h1,rfl⟩ | ⟨ll,vl,h1,rfl,h2⟩
  ·exact ⟨3,_,[],rfl,⟨_,_,rfl⟩,.inl ⟨rfl,h1⟩⟩
  ·have h3:=h2
   obtain ⟨aL,cL,rfl,_⟩:=h3
   exact ⟨0,_,ll,rfl,⟨_,_,rfl⟩,.inr ⟨rfl,h1,h2⟩⟩
 obtain ⟨e,vl,ll,rfl,⟨aL,cL,rfl⟩,hcase⟩:=hL2
 have hll5:(e = 0 → (∀ i ∈ ll,0 ≤ i ∧ i < x.bases.length) ∧ ll.length ≤ 5 ∧ leaB x call ll = true ∧ (leaB x call ls = true → ll.length ≤ ls.length)):=fun he=>by
  rcases hcase with ⟨h1,_⟩ | ⟨_,h1,_⟩
  ·omega
  ·obtain ⟨b1,b2,b3⟩:=fst_some h1
   have hln:=sub_len b1
   refine ⟨fun i hi=>idx_mem.1 (b1.subset hi),by omega,b2,fun h=>?_⟩
   have:=b3 ls hlsub h
   unfold befB at this
   split at this
   ·rename_i h2
    omega
   ·simpa using this
 have hnone:e ≠ 0 → leaB x call ls = false:=fun he=>by
  rcases hcase with ⟨_,h1⟩ | ⟨h1,_⟩
  ·exact fst_none h1 ls hlsub
  ·exact absurd h1 he
 have hG:e = 0 → GotR8 (.slice aL ll.length cL) ll N:=fun he=>by
  rcases hcase with ⟨h1,_⟩ | ⟨_,_,h1⟩
  ·omega
  ·exact h1
 have he03:e = 0 ∨ e = 3:=by
  rcases hcase with ⟨h,_⟩ | ⟨h,_⟩
  ·exact .inr h
  ·exact .inl h
 refine ⟨?_⟩
 simp (config := { maxSteps := 4000000 }) only [↓sxw,sxw,tf12,sxu,sxl,sxm,simprocAttr,dn]
 refine CallOb.pureH (fun w' hp=>har _ w' hp) ?_
 rintro r N2 (⟨h,_⟩ | ⟨_,vA,rfl,hrd⟩)
 ·exact absurd rfl h
 obtain ⟨aA,cA,ps,hvA,hps,hrdA,hrdP,_,_⟩:=hrd
 simp only [] at hvA
 subst hvA
 have hal:=arvA_len hps
 have hre:=hre aA cA ps hps
 have hH:(∀ g ∈ N,g ∈ N2 ++ N) ∧ ∀ g ∈ N2,g ∈ N2 ++ N:=⟨fun g hg=>List.mem_append_right _ hg,fun g hg=>List.mem_append_left _ hg⟩
 have z10b:((ps.length:Int) != (pb.length:Int)) = false:=by rw [show ps.length = pb.length by omega]; simp
 refine ⟨?_⟩
 simp (config := { maxSteps := 4000000 }) only [↓sxw,sxw,tf12,sxu,sxl,sxm,simprocAttr,dn]
 refine cut_constH [(46,63)] (fun _:Unit=>[(63,.bool false)]) (fun _ H2=>(∀ g ∈ N,g ∈ H2) ∧ ∀ g ∈ N2,g ∈ H2) ?_ ?_
 ·rcases he03 with rfl | rfl
  ·refine ⟨?_⟩
   simp (config := { maxSteps := 4000000 }) only [↓sxw,sxw,tf12,sxu,sxl,sxm,simprocAttr,z10b,dn]
   first | exact ⟨(),_,rfl,HImp.refl _ _,by simpa using hH⟩ | exact ⟨(),_,HImp.refl _ _,by simpa using hH⟩ | exact ⟨(),_,rfl,HImp.refl _ _,hH⟩
  ·refine ⟨?_⟩
   simp (config := { maxSteps := 4000000 }) only [↓sxw,sxw,tf12,sxu,sxl,sxm,simprocAttr,z10b,dn]
   first | exact ⟨(),_,rfl,HImp.refl _ _,by simpa using hH⟩ | exact ⟨(),_,HImp.refl _ _,by simpa using hH⟩ | exact ⟨(),_,rfl,HImp.refl _ _,hH⟩
 rintro _ H3 g3 ⟨hHN,hH2⟩
 have hAw:=fun (H:List HO) (hm:∀ g ∈ N2,g ∈ H) w' (hp:Hp ⟨w,fun _=>False⟩ H w')=>(show Sl w' (.slice aA ps.length cA) 1 (cat lmc ps) ∧ ∀ p ∈ ps,Sl w' (lmv p) 1 (ints p.1) from ⟨row_hp (hm _ hrdA) hp,fun p hpm=>row_hp (hm _ (hrdP p hpm)) hp⟩)
 have hr2:=fun (H:List HO) (hm:∀ g ∈ N2,g ∈ H) w' (hp:Hp ⟨w,fun _=>False⟩ H w')=>hre (.slice aV ls.length cV) ls (by omega) hlb H w' hp (hAw H hm w' hp).1 (hAw H hm w' hp).2 (hls.hp (fun _ _=>id) hp)
 rw [← hrl] at hr2
 refine ⟨?_⟩
 simp (config := { maxSteps := 4000000 }) only [↓sxw,sxw,tf12,sxu,sxl,sxm,simprocAttr,dn]
 refine cut_constH [(64,74)] (fun _:Unit=>[(74,.bool false)]) (fun _ H2=>(∀ g ∈ N,g ∈ H2) ∧ ∀ g ∈ N2,g ∈ H2) ?_ ?_
 ·rcases he03 with rfl | rfl
  ·obtain ⟨q1,q2,q3,_⟩:=hll5 rfl
   have hr1:=hre (.slice aL ll.length cL) ll (by omega) q1 H3
   rw [← lea_rea hnb.2 (call:=call) q1,q3] at hr1
   refine ⟨?_⟩
   simp (config := { maxSteps := 4000000 }) only [↓sxw,sxw,tf12,sxu,sxl,sxm,simprocAttr,dn]
   refine CallOb.pureH (fun w' hp=>hr1 w' hp (hAw _ hH2 w' hp).1 (hAw _ hH2 w' hp).2 ((hG rfl).hp hHN hp)) ?_
   rintro r N3 rfl
   refine ⟨?_⟩
   simp (config := { maxSteps := 4000000 }) only [↓sxw,sxw,tf12,sxu,sxl,sxm,simprocAttr,dn]
   have hH4:(∀ g ∈ N,g ∈ N3 ++ H3) ∧ ∀ g ∈ N2,g ∈ N3 ++ H3:=⟨fun g hg=>List.mem_append_right _ (hHN g hg),fun g hg=>List.mem_append_right _ (hH2 g hg)⟩
   first | exact ⟨(),_,rfl,HImp.refl _ _,hH4⟩ | exact ⟨(),_,HImp.refl _ _,hH4⟩
  ·refine ⟨?_⟩
   simp (config := { maxSteps := 4000000 }) only [↓sxw,sxw,tf12,sxu,sxl,sxm,simprocAttr,dn]
   first | exact ⟨(),_,rfl,HImp.refl _ _,hHN,hH2⟩ | exact ⟨(),_,HImp.refl _ _,hHN,hH2⟩
 rintro _ H4 g4 ⟨hHN,hH2⟩
 obtain ⟨RB,hRB⟩:∃ b,leaB x call ls = b:=⟨_,rfl⟩
 simp only [hRB] at hr2
 rw [hRB] at hll5 hnone
 cases RB with
 | false=>
  refine ⟨?_⟩
  simp (config := { maxSteps := 4000000 }) only [↓sxw,sxw,tf12,sxu,sxl,sxm,simprocAttr,dn]
  refine CallOb.pureH (fun w' hp=>hr2 _ hH2 w' hp) ?_
  rintro r N3 rfl
  refine ⟨?_⟩
  simp (config := { maxSteps := 4000000 }) only [↓sxw,sxw,tf12,sxu,sxl,sxm,simprocAttr,dn]
  refine CallOb.pureH (fun w' hp=>hwo _ w' hp) ?_
  rintro r N4 rfl
  refine ⟨?_⟩
  simp (config := { maxSteps := 4000000 }) only [↓sxw,sxw,tf12,sxu,sxl,sxm,simprocAttr,dn]
  try rfl
 | true=>
  have he:e = 0:=Classical.byContradiction fun h=>by cases hnone h
  subst he
  obtain ⟨_,_,_,q4⟩:=hll5 rfl
  have q4:=q4 rfl
  have y1:((ll.length:Int) ≤ (ls.length:Int)) = True:=eq_true (by omega)
  refine ⟨?_⟩
  simp (config := { maxSteps := 4000000 }) only [↓sxw,sxw,tf12,sxu,sxl,sxm,simprocAttr,dn]
  refine CallOb.pureH (fun w' hp=>hr2 _ hH2 w' hp) ?_
  rintro r N3 rfl
  refine ⟨?_⟩
  simp (config := { maxSteps := 4000000 }) only [↓sxw,sxw,tf12,sxu,sxl,sxm,simprocAttr,y1,dn]
  refine CallOb.pureH (fun w' hp=>hwo _ w' hp) ?_
  rintro r N4 rfl
  refine ⟨?_⟩
  simp (config := { maxSteps := 4000000 }) only [↓sxw,sxw,tf12,sxu,sxl,sxm,simprocAttr,dn]
  try rfl
end Go.Proofs.YtljpknnhimkkjaaGreatDoor

