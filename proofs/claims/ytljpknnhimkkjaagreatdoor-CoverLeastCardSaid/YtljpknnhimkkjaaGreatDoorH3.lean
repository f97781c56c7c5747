/- Parts of a proof: the symbolic walk and what it shows of single functions. -/
import Derived.Test.YtljpknnhimkkjaaGreatDoorH2
set_option linter.all false
namespace Go.Proofs.YtljpknnhimkkjaaGreatDoor
open Go.RowKit Go.SX
set_option maxRecDepth 10000
set_option maxHeartbeats 0
set_option linter.unusedSimpArgs false
set_option linter.unusedVariables false
def nedM (q:Nat → Int) (a:Nat):Nat → Int
 | 0=>6
 | i + 1=>if a.testBit i then min (nedM q a i) (q (a - 2 ^ i) + 1) else nedM q a i
def nedF (p:Nat → Bool) (n:Nat):Nat → Nat → Int
 | 0,_=>6
 | f + 1,a=>if p a then 0 else nedM (nedF p n f) a n
theorem bit_pos {a i:Nat} (h:a.testBit i = true):a - 2 ^ i < a:=by
 have h1:2 ^ i ≤ a:=by
  refine Classical.byContradiction fun hc=>?_
  rw [Nat.testBit_lt_two_pow (by omega)] at h
  cases h
 have:=Nat.two_pow_pos i
 omega
theorem nedM_congr {q q':Nat → Int} {a:Nat} (h:∀ b,b < a → q b = q' b):∀ i,nedM q a i = nedM q' a i
 | 0=>rfl
 | i + 1=>by
  rw [nedM,nedM,nedM_congr h i]
  by_cases hb:a.testBit i = true
  ·rw [if_pos hb,if_pos hb,h _ (bit_pos hb)]
  ·rw [if_neg hb,if_neg hb]
theorem nedF_stable (p:Nat → Bool) (n:Nat):∀ (f g a:Nat),a < f → a < g → nedF p n f a = nedF p n g a
 | 0,_,_,h,_=>by omega
 | _ + 1,0,_,_,h=>by omega
 | f + 1,g + 1,a,h1,h2=>by
  rw [nedF,nedF]
  split
  ·rfl
  ·exact nedM_congr (fun b hb=>nedF_stable p n f g b (by omega) (by omega)) n
theorem nedM_bnd {q:Nat → Int} {a:Nat} (h:∀ b,0 ≤ q b):∀ i,0 ≤ nedM q a i ∧ nedM q a i ≤ 6
 | 0=>by simp [nedM]
 | i + 1=>by
  have h1:=nedM_bnd (a:=a) h i
  have h2:=h (a - 2 ^ i)
  rw [nedM]
  split <;> omega
theorem nedF_bnd (p:Nat → Bool) (n:Nat):∀ f a,0 ≤ nedF p n f a ∧ nedF p n f a ≤ 6
 | 0,a=>by simp [nedF]
 | f + 1,a=>by
  rw [nedF]
  split
  ·omega
  ·exact nedM_bnd (fun b=>(nedF_bnd p n f b).1) n
noncomputable def ned (x:Cst) (a:Nat):Int:=nedF (alwB x) x.bases.length (a + 1) a
theorem ned_bnd (x:Cst) (a:Nat):0 ≤ ned x a ∧ ned x a ≤ 6:=nedF_bnd _ _ _ _
theorem ned_eq (x:Cst) (a:Nat):ned x a = if alwB x a then 0 else nedM (ned x) a x.bases.length:=by
 unfold ned
 rw [nedF]
 split
 ·rfl
 ·exact nedM_congr (fun b hb=>nedF_stable _ _ _ _ _ hb (Nat.lt_succ_self _)) _
theorem off8:∀ s:Fin 32,∀ i:Fin 5,s.val.testBit i.val = true → bitS .andNot .u64 ((s.val:Nat):Int) ((2 ^ i.val:Nat):Int) = ((s.val - 2 ^ i.val:Nat):Int):=by decide +kernel
theorem setI_one {i:Nat}:setI [(i:Int)] = 2 ^ i:=by
 unfold setI
 simp only [List.foldl_cons,List.foldl_nil]
 rw [if_pos (Int.natCast_nonneg _),Int.toNat_natCast,Nat.zero_or]
structure Rft where
 base:Int
 first:Int
 last:Int
 days:Int
def rfc (r:Rft):List Value:=[I r.base,I r.first,I r.last,I r.days]
theorem rfc_len (r:Rft):(rfc r).length = 4:=rfl
structure RoW (w:World) (X:Nat → Prop) (br bc bn:Nat) (vr:Value) (l:List Rft) (relief days:Int):Prop where
 nr:¬ X br
 cel:∀ (i:Nat) u,[Value.pointer (some ⟨bc,0,none⟩),vr,I relief,I days,.map (some bn)][i]? = some u → w.cell? ⟨br,i,none⟩ = some u
 lst:SlX w X vr 4 (cat rfc l)
theorem RoW.keep {w w':World} {X:Nat → Prop} {br bc bn:Nat} {vr:Value} {l:List Rft} {relief days:Int} (h:RoW w X br bc bn vr l relief days) (hk:Keep X w w'):RoW w' X br bc bn vr l relief days:=
 ⟨h.nr,fun i u hu=>by
  have:=h.cel i u hu
  rw [World.cell?_of_block (w:=w) (hk.block br (World.block_lt_of_cell? w ⟨br,i,none⟩ this) h.nr)]
  exact this,h.lst.keep hk⟩
theorem RoW.mono {w:World} {X Y:Nat → Prop} {br bc bn:Nat} {vr:Value} {l:List Rft} {relief days:Int} (h:RoW w X br bc bn vr l relief days) (hY:∀ b,Y b → X b):RoW w Y br bc bn vr l relief days:=
 ⟨fun hb=>h.nr (hY _ hb),h.cel,⟨h.lst.1,fun h0 b hb hy=>h.lst.2 h0 b hb (hY b hy)⟩⟩
theorem KOk.mono {w:World} {X Y:Nat → Prop} {x:Cst} {K:List (Int × Value)} (h:KOk w X x K) (hY:∀ b,Y b → X b):KOk w Y x K:=fun e he=>by
 obtain ⟨a,c,ps,h1,h2,h3,h4⟩:=h e he
 exact ⟨a,c,ps,h1,h2,⟨h3.1,fun h0 b hb hy=>h3.2 h0 b hb (hY b hy)⟩,fun p hp=>⟨(h4 p hp).1,fun h0 b hb hy=>(h4 p hp).2 h0 b hb (hY b hy)⟩⟩
def MOk (x:Cst) (M:List (Int × Value)):Prop:=∀ e ∈ M,∃ a:Nat,e.1 = a ∧ e.2 = I (ned x a)
def mm (bm bn:Nat):Nat → Prop:=fun b=>b = bm ∨ b = bn
theorem fpsx_mm {bm bn:Nat} {K M:List (Int × Value)}:fpsx [mapO .i64 bm K,mapO .u64 bn M] = mm bm bn:=by
 funext b
 apply propext
 constructor
 ·rintro ⟨h,hh,hb⟩
  simp only [List.mem_cons,List.not_mem_nil,or_false] at hh
  rcases hh with rfl | rfl
  ·exact .inl hb
  ·exact .inr hb
 ·rintro (rfl | rfl)
  ·exact ⟨mapO .i64 b K,by simp,rfl⟩
  ·exact ⟨mapO .u64 b M,by simp,rfl⟩
theorem fps_mm {bm bn:Nat} {K M:List (Int × Value)} (b:Nat):fps [mapO .i64 bm K,mapO .u64 bn M] b → fpsx [mapO .i64 bm K,mapO .u64 bn M] b:=by
 rintro ⟨h,hh,hb⟩
 refine ⟨h,hh,?_⟩
 simp only [List.mem_cons,List.not_mem_nil,or_false] at hh
 rcases hh with rfl | rfl <;> exact hb
def NedP (x:Cst) (bm bn a:Nat) (K M:List (Int × Value)) (R:Value → Prop) (r:Value) (N:List HO):Prop:=∃ K' M' D,N = mapO .i64 bm K' :: mapO .u64 bn M' :: D ∧ (∀ e ∈ K',e ∈ K ∨ RwD x D e) ∧ MOk x M' ∧ (∀ e ∈ M',e ∈ M ∨ e.1 ≤ (a:Int)) ∧ R r
theorem needT:Tryz.prog.underlying 159 = some (.map 152 3):=by kernel_rfl
theorem fleetT:Tryz.prog.underlying 152 = some (.int .u64):=by kernel_rfl
theorem zeroI8 (w:World):(zeroValue 3).run Tryz.prog w = .ok (I 0) w:=by kernel_rfl
theorem need_fn (bc bm br bn:Nat) (hne:bm ≠ bn) (sD sT sS vb vm:Value) (x:Cst) (pb:List Bm) (hsm:x.small) (hok:x.ok) (vr:Value) (l:List Rft) (relief days:Int):∀ (a:Nat),a < 32 → ∀ (w:World) (hc:CoW w (mm bm bn) bc bm sD sT sS vb vm x pb) (hr:RoW w (mm bm bn) br bc bn vr l relief days) (K M:List (Int × Value)) (hm:HO.ok w (mapO .i64 bm K)) (hn:HO.ok w (mapO .u64 bn M)) (hK:KOk w (mm bm bn) x K) (hM:MOk x M),
  SX.Fn Tryz.prog 164 [.pointer (some ⟨br,0,none⟩),.int .u64 a] w (mm bm bn) (NedP x bm bn a K M fun r=>r = I (ned x a)):=by
 intro a
 induction a using Nat.strongRecOn with
 | ind a ih=>
 intro ha w hc hr K M hm hn hK hM
 refine Fn.sp ?_
 have dn:∀ (g:Nat) (xs:List Value),det0 g xs = none:=fun _ _=>rfl
 have nr:=hr.nr
 have nc:=hc.nc
 have r0:=hr.cel 0 _ rfl
 have r4:=hr.cel 4 _ rfl
 unfold NedP
 refine walk [] [] (det0_ok _ _) Tryz.func164 rfl Tryz.ntmps164 res164 (by kernel_rfl) (H0:=[mapO .i64 bm K,mapO .u64 bn M]) ⟨fun g hg=>?_,fun g hg b hb=>?_,?_⟩ ?_
 ·simp only [List.mem_cons,List.not_mem_nil,or_false] at hg
  rcases hg with rfl | rfl
  ·exact hm
  ·exact hn
 ·simp only [List.mem_cons,List.not_mem_nil,or_false] at hg
  rcases hg with rfl | rfl
  ·exact .inl hb
  ·exact .inr hb
 ·refine List.pairwise_cons.2 ⟨fun g hg b hb hb'=>?_,List.pairwise_singleton _ _⟩
  rw [List.mem_singleton] at hg
  subst hg
  have h1:b = bm:=hb
  have h2:b = bn:=hb'
  exact absurd (h1.symm.trans h2) hne
 simp (config := { maxSteps := 4000000 }) only [↓sxw,sxw,tf164,sxu,sxl,sxm,simprocAttr,dn]
 refine ld_olda (b:=br) (o:=4) (by simp [add_block]) r4 nr ?_
 simp (config := { maxSteps := 4000000 }) only [↓sxw,sxw,tf164,sxu,sxl,sxm,simprocAttr,dn]
 refine lk_num (z:=I 0) needT fleetT zeroI8 (List.mem_cons_of_mem _ List.mem_cons_self) (fun hno=>?_) (fun q hq hqc=>?_)
 case refine_4.refine_2=>
  obtain ⟨a2,h1,h2⟩:=hM q hq
  obtain ⟨qc,qv⟩:=q
  simp only [] at hqc h1 h2
  subst hqc h2
  obtain rfl:a = a2:=by omega
  simp (config := { maxSteps := 4000000 }) only [↓sxw,sxw,tf164,sxu,sxl,sxm,simprocAttr,dn]
  exact ⟨_,_,List.Perm.refl _,List.Sublist.refl _,K,M,[],rfl,fun e he=>.inl he,hM,fun e he=>.inl he⟩
 have hw2:∀ {B:List HO} {w'},Hp ⟨w,mm bm bn⟩ B w' → CoW w' (mm bm bn) bc bm sD sT sS vb vm x pb:=fun hp=>hc.keep hp.ext
 have hal:=fun w' (hp:Hp ⟨w,mm bm bn⟩ ([mapO .i64 bm K] ++ [mapO .u64 bn M]) w')=>always_fn w' bc bm sD sT sS vb vm x pb ((hc.keep hp.ext).mono fun b hb=>.inl hb) hsm hok K (hp.ok _ (by simp)) ((hK.keep hp.ext).mono fun b hb=>.inl hb) a ha
 have hnq:=ned_eq x a
 obtain ⟨NA,hNA⟩:∃ n,ned x a = n:=⟨_,rfl⟩
 rw [hNA] at hnq
 obtain ⟨AL,hAL⟩:∃ b,alwB x a = b:=⟨_,rfl⟩
 rw [hAL] at hnq
 simp only [hAL] at hal
 have hnb:=hok.nb
 have hpl:pb.length = x.bases.length:=by rw [← hc.fst,List.length_map]
 have c5:=hc.cel 5 _ rfl
 obtain ⟨aB,nB,cB,rfl⟩:=hc.bas.1.shape
 have hnB:=hc.bas.1.le bac_len (by omega)
 subst hnB
 rw [hNA]
 simp (config := { maxSteps := 4000000 }) only [↓sxw,sxw,tf164,sxu,sxl,sxm,simprocAttr,dn]
 refine ld_olda (b:=br) (o:=0) (by simp [add_block]) r0 nr ?_
 simp (config := { maxSteps := 4000000 }) only [↓sxw,sxw,tf164,sxu,sxl,sxm,simprocAttr,dn]
 refine CallOb.mutH (A:=[mapO .i64 bm K]) (B:=[mapO .u64 bn M]) (HImp.refl _ _) fps_map (fun w' hp=>by rw [fpsx_map]; exact hal w' hp) ?_ (Post:=TimP x bm K fun r _=>r = .bool AL)
 rintro r N ⟨K1,D1,rfl,hK1,rfl⟩
 have hins:∀ (K2 M2:List (Int × Value)) (D2:List HO),(∀ e ∈ K2,e ∈ K ∨ RwD x D2 e) → MOk x M2 → (∀ e ∈ M2,e ∈ M ∨ e.1 ≤ (a:Int)) → ∃ N' M',N'.Perm M' ∧ M'.Sublist (mapO .i64 bm K2 :: (D2 ++ [mapO .u64 bn (M2 ++ [((a:Int),I NA)])])) ∧ ∃ K' M'' D,N' = mapO .i64 bm K' :: mapO .u64 bn M'' :: D ∧ (∀ e ∈ K',e ∈ K ∨ RwD x D e) ∧ MOk x M'' ∧ ∀ e ∈ M'',e ∈ M ∨ e.1 ≤ (a:Int):=fun K2 M2 D2 h1 h2 h3=>by
  refine ⟨_,_,List.Perm.cons _ (List.perm_append_comm (l₁:=[mapO .u64 bn (M2 ++ [((a:Int),I NA)])]) (l₂:=D2)),List.Sublist.refl _,K2,_,D2,rfl,h1,fun e he=>?_,fun e he=>?_⟩
  ·rcases List.mem_append.1 he with he | he
   ·exact h2 e he
   ·rw [List.mem_singleton.1 he]
    exact ⟨a,rfl,by rw [hNA]⟩
  ·rcases List.mem_append.1 he with he | he
   ·exact h3 e he
   ·rw [List.mem_singleton.1 he]
    exact .inr (Int.le_refl _)
 cases AL with
 | true=>
  rw [if_pos rfl] at hnq
  subst hnq
  refine ⟨?_⟩
  simp (config := { maxSteps := 4000000 }) only [↓sxw,sxw,tf164,sxu,sxl,sxm,simprocAttr,dn]
  refine ld_olda (b:=br) (o:=4) (by simp [add_block]) r4 nr ?_
  simp (config := { maxSteps := 4000000 }) only [↓sxw,sxw,tf164,sxu,sxl,sxm,simprocAttr,dn]
  refine ins_num (A:=mapO .i64 bm K1 :: D1) needT fleetT hno rfl ?_
  simp (config := { maxSteps := 4000000 }) only [↓sxw,sxw,tf164,sxu,sxl,sxm,simprocAttr,dn]
  exact hins K1 M D1 hK1 hM fun e he=>.inl he
 | false=>
 rw [if_neg Bool.false_ne_true] at hnq
 refine ⟨?_⟩
 simp (config := { maxSteps := 4000000 }) only [↓sxw,sxw,tf164,sxu,sxl,sxm,simprocAttr,dn]
 refine ld_olda (b:=br) (o:=0) (by simp [add_block]) r0 nr ?_
 simp (config := { maxSteps := 4000000 }) only [↓sxw,sxw,tf164,sxu,sxl,sxm,simprocAttr,dn]
 refine ld_olda (b:=bc) (o:=5) (by simp [add_block]) c5 nc ?_
 simp (config := { maxSteps := 4000000 }) only [↓sxw,sxw,tf164,sxu,sxl,sxm,simprocAttr,dn]
 have hkm:∀ (K2 M2:List (Int × Value)) (D2:List HO) w',(∀ e ∈ K2,e ∈ K ∨ RwD x D2 e) → Hp ⟨w,mm bm bn⟩ ([mapO .i64 bm K2,mapO .u64 bn M2] ++ D2) w' → KOk w' (mm bm bn) x K2:=fun K2 M2 D2 w' h1 hp e he=>by
  rcases h1 e he with h | h
  ·exact (hK e h).keep hp.ext
  ·have:=h.ll hp
   rwa [fpsx_mm] at this
 have hrec:=fun (i:Nat) (hb:a.testBit i = true) (K2 M2:List (Int × Value)) (D2:List HO) (h1:∀ e ∈ K2,e ∈ K ∨ RwD x D2 e) (h2:MOk x M2) w' (hp:Hp ⟨w,mm bm bn⟩ ([mapO .i64 bm K2,mapO .u64 bn M2] ++ D2) w')=>ih (a - 2 ^ i) (bit_pos hb) (by have:=bit_pos hb; omega) w' (hc.keep hp.ext) (hr.keep hp.ext) K2 M2 (hp.ok _ (by simp)) (hp.ok _ (by simp)) (hkm K2 M2 D2 w' h1 hp) h2
 refine loop_constH (mapO .i64 bm K1 :: mapO .u64 bn M :: D1) (HImp.perm (List.Perm.cons _ (List.perm_append_comm (l₂:=[mapO .u64 bn M])))) [(7,8),(36,52)] (fun i:Nat=>[(7,I (nedM (ned x) a i)),(36,I i)]) (fun i H1=>i ≤ pb.length ∧ ∃ K2 M2 D2,H1 = mapO .i64 bm K2 :: mapO .u64 bn M2 :: D2 ∧ (∀ e ∈ K2,e ∈ K ∨ RwD x D2 e) ∧ MOk x M2 ∧ ∀ e ∈ M2,e ∈ M ∨ e.1 < (a:Int)) (fun i=>pb.length - i) 0 ?_ ⟨Nat.zero_le _,K1,M,D1,rfl,hK1,hM,fun e he=>.inl he⟩ ?_
 ·simp (config := { maxSteps := 4000000 }) only [↓sxw,sxw,tf164,sxu,sxl,sxm,simprocAttr]
  first | exact ⟨rfl,rfl⟩ | (simp [nedM]; done) | rfl
 rintro i H1 g1 ⟨hi,K2,M2,D2,rfl,hK2,hM2,hM2b⟩
 by_cases hin:i = pb.length
 ·have e7:((i:Int) < (pb.length:Int)) = False:=eq_false (by omega)
  have hno2:∀ p ∈ M2,p.1 ≠ (a:Int):=fun p hp=>by
   rcases hM2b p hp with h | h
   ·exact hno p h
   ·omega
  have hv:nedM (ned x) a i = NA:=by rw [hnq,hin,hpl]
  rw [hv]
  refine ⟨?_⟩
  simp (config := { maxSteps := 4000000 }) only [↓sxw,sxw,tf164,sxu,sxl,sxm,simprocAttr,e7,dn]
  refine ld_olda (b:=br) (o:=4) (by simp [add_block]) r4 nr ?_
  simp (config := { maxSteps := 4000000 }) only [↓sxw,sxw,tf164,sxu,sxl,sxm,simprocAttr,dn]
  refine ins_num (A:=[mapO .i64 bm K2]) needT fleetT hno2 rfl ?_
  simp (config := { maxSteps := 4000000 }) only [↓sxw,sxw,tf164,sxu,sxl,sxm,simprocAttr,dn]
  refine ⟨_,_,List.Perm.refl _,List.Sublist.refl _,K2,_,D2,rfl,hK2,fun e he=>?_,fun e he=>?_⟩
  ·rcases List.mem_append.1 he with he | he
   ·exact hM2 e he
   ·rw [List.mem_singleton.1 he]
    exact ⟨a,rfl,by rw [hNA]⟩
  ·rcases List.mem_append.1 he with he | he
   ·exact (hM2b e he).imp_right fun h=>by omega
   ·rw [List.mem_singleton.1 he]
    exact .inr (Int.le_refl _)
 have e7:((i:Int) < (pb.length:Int)) = True:=eq_true (by omega)
 have e8:wr (i + 1) = ((i + 1:Nat):Int):=(wrap_id (by omega)).trans (by omega)
 have hha:=fun w'=>fhas_fn w' a i ha (by omega)
 have hstep:nedM (ned x) a (i + 1) = if a.testBit i then min (nedM (ned x) a i) (ned x (a - 2 ^ i) + 1) else nedM (ned x) a i:=rfl
 obtain ⟨B,hB⟩:∃ B,a.testBit i = B:=⟨_,rfl⟩
 rw [hB] at hstep
 simp only [hB] at hha
 obtain ⟨V,hV⟩:∃ V,nedM (ned x) a i = V:=⟨_,rfl⟩
 rw [hV] at hstep ⊢
 cases B with
 | false=>
  rw [if_neg Bool.false_ne_true] at hstep
  refine ⟨?_⟩
  simp (config := { maxSteps := 4000000 }) only [↓sxw,sxw,tf164,sxu,sxl,sxm,simprocAttr,e7,dn]
  refine CallOb.pureH (fun w' hp=>hha w') ?_
  rintro r N rfl
  refine ⟨?_⟩
  simp (config := { maxSteps := 4000000 }) only [↓sxw,sxw,tf164,sxu,sxl,sxm,simprocAttr,e8,dn]
  exact ⟨i + 1,_,by first | exact ⟨by rw [hstep],rfl⟩ | (rw [hstep]; done),HImp.app _ _ _,⟨by omega,K2,M2,D2,rfl,hK2,hM2,hM2b⟩,by omega⟩
 | true=>
 rw [if_pos rfl] at hstep
 have hbp:=bit_pos hB
 have hri:=hrec i hB K2 M2 D2 hK2 hM2
 have eo:=off8 ⟨a,ha⟩ ⟨i,by omega⟩ hB
 simp only [] at eo
 have hnb2:=ned_bnd x (a - 2 ^ i)
 obtain ⟨A2,hA2⟩:∃ A2,a - 2 ^ i = A2:=⟨_,rfl⟩
 rw [hA2] at hstep hri eo hnb2 hbp
 obtain ⟨Q,hQ⟩:∃ Q,ned x A2 = Q:=⟨_,rfl⟩
 rw [hQ] at hstep hnb2
 simp only [hQ] at hri
 have eQ:wr (Q + 1) = Q + 1:=wrap_id (by omega)
 refine ⟨?_⟩
 simp (config := { maxSteps := 4000000 }) only [↓sxw,sxw,tf164,sxu,sxl,sxm,simprocAttr,e7,dn]
 refine CallOb.pureH (fun w' hp=>hha w') ?_
 rintro r N rfl
 refine ⟨?_⟩
 simp (config := { maxSteps := 4000000 }) only [↓sxw,sxw,tf164,sxu,sxl,sxm,simprocAttr,dn]
 intro b4
 refine CallOb.pureH (fun w' hp=>fset_fn w' _ [(i:Int)] (row_hp (E:=3) (xs:=ints [(i:Int)]) (by simp [cat,i1]) hp) (by simp) (fun n hn=>by rw [List.mem_singleton.1 hn]; omega)) ?_
 rintro r N2 rfl
 rw [setI_one]
 refine ⟨?_⟩
 simp (config := { maxSteps := 4000000 }) only [↓sxw,sxw,tf164,sxu,sxl,sxm,simprocAttr,eo,dn]
 refine CallOb.mutH (A:=[mapO .i64 bm K2,mapO .u64 bn M2]) (B:=D2) ((HImp.app _ _ _).trans ((HImp.tail _ _ _).trans (HImp.app _ _ _))) fps_mm (fun w' hp=>by rw [fpsx_mm]; exact hri w' hp) ?_ (Post:=NedP x bm bn A2 K2 M2 fun r=>r = I Q)
 rintro r N3 ⟨K3,M3,D3,rfl,hK3,hM3,hM3b,rfl⟩
 have hK4:=tim_merge hK2 hK3
 refine ⟨?_⟩
 simp (config := { maxSteps := 4000000 }) only [↓sxw,sxw,tf164,sxu,sxl,sxm,simprocAttr,eQ,e8,dn]
 exact ⟨i + 1,_,by first | exact ⟨by rw [hstep],rfl⟩ | (rw [hstep]; done),HImp.refl _ _,⟨by omega,K3,M3,D3 ++ D2,rfl,hK4,hM3,fun e he=>by
  rcases hM3b e he with h | h
  ·exact hM2b e h
  ·exact .inr (by omega)⟩,by omega⟩
end Go.Proofs.YtljpknnhimkkjaaGreatDoor

namespace Go.Proofs.YtljpknnhimkkjaaGreatDoor
open Go.RowKit Go.SX
set_option maxRecDepth 10000
set_option maxHeartbeats 0
set_option linter.unusedSimpArgs false
set_option linter.unusedVariables false
def rft0:Rft:=⟨0,0,0,0⟩
def awaN (l:List Rft) (beg:List Int) (day:Int):Nat → Nat
 | 0=>0
 | i + 1=>if inB day (beg.getD i 0) (beg.getD i 0 + (l.getD i rft0).days - 1) then awaN l beg day i ||| 2 ^ (l.getD i rft0).base.toNat else awaN l beg day i
def RftOk (l:List Rft):Prop:=∀ r ∈ l,(0 ≤ r.base ∧ r.base < 5) ∧ (0 ≤ r.first ∧ r.first ≤ 100) ∧ (0 ≤ r.last ∧ r.last ≤ 100) ∧ 1 ≤ r.days ∧ r.days ≤ 200
def BegOk (beg:List Int):Prop:=∀ b ∈ beg,0 ≤ b ∧ b ≤ 300
theorem awaN_lt {l:List Rft} (hl:RftOk l) (beg:List Int) (day:Int):∀ i,i ≤ l.length → awaN l beg day i < 32
 | 0,_=>by simp [awaN]
 | i + 1,h=>by
  have ih:=awaN_lt hl beg day i (by omega)
  rw [awaN]
  split
  ·have hx:=List.getElem?_eq_getElem (show i < l.length by omega)
   have hr:=hl _ (List.getElem_mem (show i < l.length by omega))
   rw [List.getD_eq_getElem?_getD,hx,Option.getD_some]
   exact or8_lt ⟨_,ih⟩ ⟨(l[i]).base.toNat,by omega⟩
  ·exact ih
theorem away_fn (w:World) (br bc bn:Nat) (vr:Value) (l:List Rft) (relief days:Int) (hr:RoW w (fun _=>False) br bc bn vr l relief days) (hl:RftOk l) (hl2:l.length ≤ 20) (vb:Value) (beg:List Int) (hb:Sl w vb 1 (ints beg)) (hbo:BegOk beg) (hbl:beg.length ≤ l.length) (day:Int):
  SX.Fn Tryz.prog 165 [.pointer (some ⟨br,0,none⟩),vb,I day] w (fun _=>False) fun r N=>r = .int .u64 (awaN l beg day beg.length):=by
 have dn:(∀ xs,detV 134 xs = none):=fun _=>rfl
 have r1:=hr.cel 1 _ rfl
 have hrL:=hr.lst.rdv
 obtain ⟨aL,nL,cL,rfl⟩:=hr.lst.1.shape
 have hnL:=hr.lst.1.le rfc_len (by omega)
 subst hnL
 have hrB:=hb.rd0
 obtain ⟨aB,nB,cB,rfl⟩:=hb.shape
 have hnB:=hb.le i1_len (by omega)
 subst hnB
 refine walk [] [] (detV_ok _ _) Tryz.func165 rfl Tryz.ntmps165 res165 (by kernel_rfl) no_facts ?_
 simp (config := { maxSteps := 4000000 }) only [↓sxw,sxw,tf165,sxu,sxl,sxm,simprocAttr,dn]
 refine loop_constH [] (HImp.nil _ _) [(7,10),(13,37)] (fun i:Nat=>[(7,.int .u64 (awaN l beg day i)),(13,I i)]) (fun i H1=>i ≤ beg.length ∧ H1 = []) (fun i=>beg.length - i) 0 ?_ ⟨Nat.zero_le _,rfl⟩ ?_
 ·simp (config := { maxSteps := 4000000 }) only [↓sxw,sxw,tf165,sxu,sxl,sxm,simprocAttr]
  first | exact ⟨rfl,rfl⟩ | (simp [awaN]; done) | rfl
 rintro i H1 g1 ⟨hi,rfl⟩
 by_cases hin:i = beg.length
 ·have e7:((i:Int) < (beg.length:Int)) = False:=eq_false (by omega)
  rw [hin] at e7 ⊢
  refine ⟨?_⟩
  simp (config := { maxSteps := 4000000 }) only [↓sxw,sxw,tf165,sxu,sxl,sxm,simprocAttr,e7,dn]
  try rfl
 have e7:((i:Int) < (beg.length:Int)) = True:=eq_true (by omega)
 have e8:wr (i + 1) = ((i + 1:Nat):Int):=(wrap_id (by omega)).trans (by omega)
 have eL:((i:Int) < (l.length:Int)) = True:=eq_true (by omega)
 obtain ⟨f,hf⟩:∃ f,beg[i]? = some f:=⟨_,List.getElem?_eq_getElem (by omega)⟩
 obtain ⟨u,hu⟩:∃ u,l[i]? = some u:=⟨_,List.getElem?_eq_getElem (by omega)⟩
 have hfo:=hbo f (List.mem_of_getElem? hf)
 have huo:=hl u (List.mem_of_getElem? hu)
 have hlt:=awaN_lt hl beg day i (by omega)
 have hstep:awaN l beg day (i + 1) = if inB day f (f + u.days - 1) then awaN l beg day i ||| 2 ^ u.base.toNat else awaN l beg day i:=by
  rw [awaN,show beg.getD i 0 = f by rw [List.getD_eq_getElem?_getD,hf]; rfl,show l.getD i rft0 = u by rw [List.getD_eq_getElem?_getD,hu]; rfl]
 have e9:wr (f + u.days) = f + u.days:=wrap_id (by omega)
 have e10:wr (f + u.days - 1) = f + u.days - 1:=wrap_id (by omega)
 obtain ⟨ub,uf,ul,ud⟩:=u
 simp only [] at huo hstep e9 e10
 obtain ⟨b,rfl⟩:∃ b:Nat,ub = b:=⟨ub.toNat,by omega⟩
 rw [Int.toNat_natCast] at hstep
 obtain ⟨B,hB⟩:∃ B,inB day f (f + ud - 1) = B:=⟨_,rfl⟩
 rw [hB] at hstep
 obtain ⟨S,hS⟩:∃ S,awaN l beg day i = S:=⟨_,rfl⟩
 rw [hS] at hstep hlt ⊢
 refine ⟨?_⟩
 simp (config := { maxSteps := 4000000 }) only [↓sxw,sxw,tf165,sxu,sxl,sxm,simprocAttr,e7,dn]
 refine amid (at_1 (hrB _) i1_len hf rfl fun ad=>?_)
 simp (config := { maxSteps := 4000000 }) only [↓sxw,sxw,tf165,sxu,sxl,sxm,simprocAttr,dn]
 refine ld_olda (b:=br) (o:=1) (by simp [add_block]) r1 id ?_
 simp (config := { maxSteps := 4000000 }) only [↓sxw,sxw,tf165,sxu,sxl,sxm,simprocAttr,eL,dn]
 first | refine amid (at_n (hrL _) rfc_len (by omega) hu fun ad2=>?_) | refine at_n (hrL _) rfc_len (by omega) hu fun ad2=>?_
 unfold rfc
 cases B with
 | false=>
  rw [if_neg Bool.false_ne_true] at hstep
  simp (config := { maxSteps := 4000000 }) only [↓sxw,sxw,tf165,sxu,sxl,sxm,simprocAttr,detV_eq,e9,e10,hB,e8,dn]
  exact ⟨i + 1,_,by first | exact ⟨by rw [hstep],rfl⟩ | (rw [hstep]; done),HImp.nil _ _,⟨by omega,rfl⟩,by omega⟩
 | true=>
  rw [if_pos rfl] at hstep
  simp (config := { maxSteps := 4000000 }) only [↓sxw,sxw,tf165,sxu,sxl,sxm,simprocAttr,detV_eq,e9,e10,hB,e8,dn]
  refine CallOb.pureH (fun w' hp=>fwith_fn w' S b hlt (by omega)) ?_
  rintro r N rfl
  rw [← hstep]
  refine ⟨?_⟩
  simp (config := { maxSteps := 4000000 }) only [↓sxw,sxw,tf165,sxu,sxl,sxm,simprocAttr,e8,dn]
  exact ⟨i + 1,_,by first | exact ⟨rfl,rfl⟩ | rfl,HImp.nil _ _,⟨by omega,rfl⟩,by omega⟩
def NdP (x:Cst) (bm bn:Nat) (K:List (Int × Value)) (R:Value → List HO → Prop) (r:Value) (N:List HO):Prop:=∃ K' M' D,N = mapO .i64 bm K' :: mapO .u64 bn M' :: D ∧ (∀ e ∈ K',e ∈ K ∨ RwD x D e) ∧ MOk x M' ∧ R r D
noncomputable def keepB (x:Cst) (l:List Rft) (beg:List Int) (relief:Int) (days:Nat):Bool:=(List.range days).all fun d=>decide (ned x (awaN l beg d beg.length) ≤ relief)
theorem mm_ok {w:World} {bm bn:Nat} (hne:bm ≠ bn) {K M:List (Int × Value)} (hm:HO.ok w (mapO .i64 bm K)) (hn:HO.ok w (mapO .u64 bn M)):(∀ g ∈ [mapO .i64 bm K,mapO .u64 bn M],g.ok w) ∧ (∀ g ∈ [mapO .i64 bm K,mapO .u64 bn M],∀ b,g.fp b → mm bm bn b) ∧ [mapO .i64 bm K,mapO .u64 bn M].Pairwise Apart:=by
 refine ⟨fun g hg=>?_,fun g hg b hb=>?_,?_⟩
 ·simp only [List.mem_cons,List.not_mem_nil,or_false] at hg
  rcases hg with rfl | rfl
  ·exact hm
  ·exact hn
 ·simp only [List.mem_cons,List.not_mem_nil,or_false] at hg
  rcases hg with rfl | rfl
  ·exact .inl hb
  ·exact .inr hb
 ·refine List.pairwise_cons.2 ⟨fun g hg b hb hb'=>?_,List.pairwise_singleton _ _⟩
  rw [List.mem_singleton] at hg
  subst hg
  have h1:b = bm:=hb
  have h2:b = bn:=hb'
  exact absurd (h1.symm.trans h2) hne
theorem KOk.of2 {w w':World} {bm bn:Nat} {x:Cst} {K K2 M2:List (Int × Value)} {D2:List HO} (hK:KOk w (mm bm bn) x K) (h1:∀ e ∈ K2,e ∈ K ∨ RwD x D2 e) (hp:Hp ⟨w,mm bm bn⟩ ([mapO .i64 bm K2,mapO .u64 bn M2] ++ D2) w'):KOk w' (mm bm bn) x K2:=fun e he=>by
 rcases h1 e he with h | h
 ·exact (hK e h).keep hp.ext
 ·have:=h.ll hp
  rwa [fpsx_mm] at this
end Go.Proofs.YtljpknnhimkkjaaGreatDoor

namespace Go.Proofs.YtljpknnhimkkjaaGreatDoor
open Go.RowKit Go.SX
set_option maxRecDepth 10000
set_option maxHeartbeats 0
set_option linter.unusedSimpArgs false
set_option linter.unusedVariables false
def pl137_4:Plan:=(ones [0,1,2,3,6,7,8] (.ld 9 (ones [4] (.mu 5 (ones [10] .fin)))))
def pl137:List (Nat × Plan):=[(4,pl137_4)]
theorem pl137_lk:(lkO 4 pl137 = some pl137_4):=rfl
theorem keeps_fn (bc bm br bn:Nat) (hne:bm ≠ bn) (sD sT sS vb vm:Value) (x:Cst) (pb:List Bm) (hsm:x.small) (hok:x.ok) (vr:Value) (l:List Rft) (hl:RftOk l) (hl2:l.length ≤ 20) (relief:Int) (days:Nat) (hdy:days ≤ 100) (w:World) (hc:CoW w (mm bm bn) bc bm sD sT sS vb vm x pb) (hr:RoW w (mm bm bn) br bc bn vr l relief days) (K M:List (Int × Value)) (hm:HO.ok w (mapO .i64 bm K)) (hn:HO.ok w (mapO .u64 bn M)) (hK:KOk w (mm bm bn) x K) (hM:MOk x M) (ve:Value) (beg:List Int) (hb:SlX w (mm bm bn) ve 1 (ints beg)) (hbo:BegOk beg) (hbl:beg.length ≤ l.length):
  SX.Fn Tryz.prog 137 [.pointer (some ⟨br,0,none⟩),ve] w (mm bm bn) (NdP x bm bn K fun r _=>r = .bool (keepB x l beg relief days)):=by
 refine Fn.sub ?_
 have dn:∀ (g:Nat) (xs:List Value),det0 g xs = none:=fun _ _=>rfl
 have nr:=hr.nr
 have r2:=hr.cel 2 _ rfl
 have r3:=hr.cel 3 _ rfl
 have haw:=fun (day:Int) (H:List HO) w' (hp:Hp ⟨w,mm bm bn⟩ H w')=>away_fn w' br bc bn vr l relief days ((hr.keep hp.ext).mono fun b hb=>hb.elim) hl hl2 ve beg (hb.keep hp.ext).1 hbo hbl day
 have hlt:=fun (day:Int)=>awaN_lt hl beg day beg.length hbl
 have hnd:=fun (day:Int) (K2 M2:List (Int × Value)) (D2:List HO) (h1:∀ e ∈ K2,e ∈ K ∨ RwD x D2 e) (h2:MOk x M2) w' (hp:Hp ⟨w,mm bm bn⟩ ([mapO .i64 bm K2,mapO .u64 bn M2] ++ D2) w')=>need_fn bc bm br bn hne sD sT sS vb vm x pb hsm hok vr l relief days (awaN l beg day beg.length) (hlt day) w' (hc.keep hp.ext) (hr.keep hp.ext) K2 M2 (hp.ok _ (by simp)) (hp.ok _ (by simp)) (hK.of2 h1 hp) h2
 have hR:keepB x l beg relief days = (List.range days).all fun d=>decide (ned x (awaN l beg d beg.length) ≤ relief):=rfl
 obtain ⟨RR,hRR⟩:∃ b,keepB x l beg relief days = b:=⟨_,rfl⟩
 rw [hRR] at hR
 unfold NdP
 rw [hRR]
 obtain ⟨aB,nB,cB,rfl⟩:=hb.1.shape
 refine walk [] pl137 (det0_ok _ _) Tryz.func137 rfl Tryz.ntmps137 res137 (by kernel_rfl) (H0:=[mapO .i64 bm K,mapO .u64 bn M]) (mm_ok hne hm hn) ?_
 simp (config := { maxSteps := 4000000 }) only [↓sxw,sxw,tf137,sxu,sxl,sxm,simprocAttr,dn]
 refine ld_olda (b:=br) (o:=3) (by simp [add_block]) r3 nr ?_
 simp (config := { maxSteps := 4000000 }) only [↓sxw,sxw,tf137,sxu,sxl,sxm,simprocAttr,dn]
 refine loop_constH [mapO .i64 bm K,mapO .u64 bn M] (HImp.refl _ _) [(4,5),(10,24)] (fun i:Nat=>[(10,I i)]) (fun i H1=>i ≤ days ∧ (∃ K2 M2 D2,H1 = mapO .i64 bm K2 :: mapO .u64 bn M2 :: D2 ∧ (∀ e ∈ K2,e ∈ K ∨ RwD x D2 e) ∧ MOk x M2) ∧ RR = ((List.range days).drop i).all fun d=>decide (ned x (awaN l beg d beg.length) ≤ relief)) (fun i=>days - i) 0 ?_ ⟨Nat.zero_le _,⟨K,M,[],rfl,fun e he=>.inl he,hM⟩,hR⟩ ?_
 ·simp (config := { maxSteps := 4000000 }) only [↓sxw,sxw,tf137,sxu,sxl,sxm,simprocAttr]
  try simp
 rintro i H1 g1 ⟨hi,⟨K2,M2,D2,rfl,hK2,hM2⟩,hinv⟩
 by_cases hin:i = days
 ·have e7:((i:Int) < (days:Int)) = False:=eq_false (by omega)
  rw [List.drop_of_length_le (by rw [List.length_range]; omega)] at hinv
  rw [hinv]
  refine ⟨?_⟩
  simp (config := { maxSteps := 4000000 }) only [↓sxw,sxw,tf137,sxu,sxl,sxm,simprocAttr,e7,dn]
  first | exact ⟨_,List.Sublist.refl _,K2,M2,D2,rfl,hK2,hM2,rfl⟩ | exact ⟨_,List.Sublist.refl _,K2,M2,D2,rfl,hK2,hM2⟩
 have e7:((i:Int) < (days:Int)) = True:=eq_true (by omega)
 have e8:wr (i + 1) = ((i + 1:Nat):Int):=(wrap_id (by omega)).trans (by omega)
 rw [range_drop (by omega),List.all_cons] at hinv
 have hni:=hnd (i:Int) K2 M2 D2 hK2 hM2
 have hai:=haw (i:Int)
 obtain ⟨A2,hA2⟩:∃ A2,awaN l beg (i:Int) beg.length = A2:=⟨_,rfl⟩
 rw [hA2] at hinv
 simp only [hA2] at hni hai
 obtain ⟨Q,hQ⟩:∃ Q,ned x A2 = Q:=⟨_,rfl⟩
 rw [hQ] at hinv
 simp only [hQ] at hni
 refine ⟨?_⟩
 simp (config := { maxSteps := 4000000 }) only [↓sxw,sxw,tf137,sxu,sxl,sxm,simprocAttr,e7,dn,pl137_lk,pl137_4]
 refine ld_olda (b:=br) (o:=2) (by simp [add_block]) r2 nr ?_
 simp (config := { maxSteps := 4000000 }) only [↓sxw,sxw,tf137,sxu,sxl,sxm,simprocAttr,dn]
 refine CallOb.pureH (fun w' hp=>hai _ w' hp) ?_
 rintro r N rfl
 refine ⟨?_⟩
 simp (config := { maxSteps := 4000000 }) only [↓sxw,sxw,tf137,sxu,sxl,sxm,simprocAttr,dn]
 refine CallOb.mutH (A:=[mapO .i64 bm K2,mapO .u64 bn M2]) (B:=D2) (HImp.app _ _ _) fps_mm (fun w' hp=>by rw [fpsx_mm]; exact hni w' hp) ?_ (Post:=NedP x bm bn A2 K2 M2 fun r=>r = I Q)
 rintro r N3 ⟨K3,M3,D3,rfl,hK3,hM3,_,rfl⟩
 have hK4:=tim_merge hK2 hK3
 by_cases hq:Q ≤ relief
 ·have z1:(Q > relief) = False:=eq_false (by omega)
  rw [decide_eq_true hq,Bool.true_and] at hinv
  refine ⟨?_⟩
  simp (config := { maxSteps := 4000000 }) only [↓sxw,sxw,tf137,sxu,sxl,sxm,simprocAttr,z1,e8,dn]
  exact ⟨i + 1,_,rfl,HImp.refl _ _,⟨by omega,⟨K3,M3,D3 ++ D2,rfl,hK4,hM3⟩,hinv⟩,by omega⟩
 ·have z1:(Q > relief) = True:=eq_true (by omega)
  rw [decide_eq_false hq,Bool.false_and] at hinv
  rw [hinv]
  refine ⟨?_⟩
  simp (config := { maxSteps := 4000000 }) only [↓sxw,sxw,tf137,sxu,sxl,sxm,simprocAttr,z1,dn]
  first | exact ⟨_,List.Sublist.refl _,K3,M3,D3 ++ D2,rfl,hK4,hM3,rfl⟩ | exact ⟨_,List.Sublist.refl _,K3,M3,D3 ++ D2,rfl,hK4,hM3⟩
end Go.Proofs.YtljpknnhimkkjaaGreatDoor

namespace Go.Proofs.YtljpknnhimkkjaaGreatDoor
open Go.RowKit Go.SX
set_option maxRecDepth 10000
set_option maxHeartbeats 0
set_option linter.unusedSimpArgs false
set_option linter.unusedVariables false
def cntR (u:Rft):Nat:=(u.last - u.days - u.first + 2).toNat
noncomputable def begF (x:Cst) (l:List Rft) (relief:Int) (days:Nat):Nat → List Int → Option (List Int)
 | 0,_=>none
 | f + 1,b=>if keepB x l b relief days then (if b.length = l.length then some b else (List.range (cntR (l.getD b.length rft0))).findSome? fun j:Nat=>begF x l relief days f (b ++ [(l.getD b.length rft0).first + (j:Int)])) else none
theorem cloneI_fn (w:World) (v:Value) (l:List Int) (hs:Sl w v 1 (ints l)) (hb:l.length ≤ 1000):SX.Fn Tryz.prog 138 [v] w (fun _=>False) fun r N=>∃ a c,r = .slice a l.length c ∧ ∀ (w0:Base) (H:List HO),HImp w0 (N ++ H) (HO.row (.slice a l.length c) 3 1 (ints l) :: H):=by
 have hs0:=hs
 obtain ⟨a,n,c,rfl⟩:=hs.shape
 have hn:=hs.le i1_len (by omega)
 subst hn
 cases a with
 | none=>
  have hnil:l = []:=by
   cases l with
   | nil=>rfl
   | cons y ys=>
    obtain ⟨_,_,_,e,_,hcl⟩:=hs
    cases e
    obtain ⟨ad,h,_⟩:=hcl 0 _ rfl
    cases h
  subst hnil
  refine walk [] [] (det0_ok _ _) Tryz.func138 rfl Tryz.ntmps138 res138 (by kernel_rfl) no_facts ?_
  simp (config := { maxSteps := 4000000 }) only [↓sxw,sxw,tf138,sxu,sxl,sxm,simprocAttr,Option.isNone_none,reduceCtorEq,false_imp_iff,true_imp_iff]
  exact ⟨none,0,rfl,fun w0 H=>HImp.nilRow _ _ _ _⟩
 | some ad=>
  refine walk [] [] (det0_ok _ _) Tryz.func138 rfl Tryz.ntmps138 res138 (by kernel_rfl) no_facts ?_
  simp (config := { maxSteps := 4000000 }) only [↓sxw,sxw,tf138,sxu,sxl,sxm,simprocAttr,Option.isNone_some,reduceCtorEq,false_imp_iff,true_imp_iff]
  intro b
  refine app_at (f:=i1) (l:=[]) (m:=l) (HImp.refl _ _) i1_len i1_one (fun w' hp'=>Sl.hp (w0:=⟨w,fun _=>False⟩) hs0 (fun _ _=>id) hp') (by simp only [List.length_nil]; omega) fun a2 c2 h2=>?_
  rw [List.nil_append,List.length_nil,Nat.zero_add]
  simp (config := { maxSteps := 4000000 }) only [↓sxw,sxw,tf138,sxu,sxl,sxm,simprocAttr]
  exact ⟨a2,c2,rfl,fun w0 H=>by
   first
    | exact HImp.refl _ _
    | exact HImp.sub (by simp [ints])⟩
def BegP (ve:Value) (beg:List Int) (res:Option (List Int)) (r:Value) (D:List HO):Prop:=(res = none ∧ r = .tuple #[.slice none 0 0,.bool false]) ∨ ∃ L y,res = some L ∧ r = .tuple #[y,.bool true] ∧ ((y = ve ∧ L = beg) ∨ HO.row y 3 1 (ints L) ∈ D)
theorem begins_fn (bc bm br bn:Nat) (hne:bm ≠ bn) (sD sT sS vb vm:Value) (x:Cst) (pb:List Bm) (hsm:x.small) (hok:x.ok) (vr:Value) (l:List Rft) (hl:RftOk l) (hl2:l.length ≤ 20) (relief:Int) (days:Nat) (hdy:days ≤ 100):
  ∀ (f:Nat) (w:World) (hc:CoW w (mm bm bn) bc bm sD sT sS vb vm x pb) (hr:RoW w (mm bm bn) br bc bn vr l relief days) (K M:List (Int × Value)) (hm:HO.ok w (mapO .i64 bm K)) (hn:HO.ok w (mapO .u64 bn M)) (hK:KOk w (mm bm bn) x K) (hM:MOk x M) (ve:Value) (beg:List Int) (hb:SlX w (mm bm bn) ve 1 (ints beg)) (hbo:BegOk beg) (hbl:beg.length ≤ l.length) (hf:l.length - beg.length < f),
  SX.Fn Tryz.prog 87 [.pointer (some ⟨br,0,none⟩),ve] w (mm bm bn) (NdP x bm bn K (BegP ve beg (begF x l relief days f beg))):=by
 intro f
 induction f with
 | zero=>intro _ _ _ _ _ _ _ _ _ _ _ _ _ _ h; omega
 | succ f ih=>
 intro w hc hr K M hm hn hK hM ve beg hb hbo hbl hf
 refine Fn.sub ?_
 have dn:∀ (g:Nat) (xs:List Value),det0 g xs = none:=fun _ _=>rfl
 have nr:=hr.nr
 have r1:=hr.cel 1 _ rfl
 have hke:=fun w' (hp:Hp ⟨w,mm bm bn⟩ ([mapO .i64 bm K,mapO .u64 bn M] ++ []) w')=>keeps_fn bc bm br bn hne sD sT sS vb vm x pb hsm hok vr l hl hl2 relief days hdy w' (hc.keep hp.ext) (hr.keep hp.ext) K M (hp.ok _ (by simp)) (hp.ok _ (by simp)) (hK.keep hp.ext) hM ve beg (hb.keep hp.ext) hbo hbl
 have hcl:=fun (H:List HO) w' (hp:Hp ⟨w,mm bm bn⟩ H w')=>cloneI_fn w' ve beg (hb.keep hp.ext).1 (by omega)
 have hrL:=hr.lst.rdv
 obtain ⟨aL,nL,cL,rfl⟩:=hr.lst.1.shape
 have hnL:=hr.lst.1.le rfc_len (by omega)
 subst hnL
 have hbF:begF x l relief days (f + 1) beg = if keepB x l beg relief days then (if beg.length = l.length then some beg else (List.range (cntR (l.getD beg.length rft0))).findSome? fun j:Nat=>begF x l relief days f (beg ++ [(l.getD beg.length rft0).first + (j:Int)])) else none:=rfl
 obtain ⟨RES,hRES⟩:∃ r,begF x l relief days (f + 1) beg = r:=⟨_,rfl⟩
 rw [hRES] at hbF ⊢
 obtain ⟨KB,hKB⟩:∃ b,keepB x l beg relief days = b:=⟨_,rfl⟩
 rw [hKB] at hbF
 simp only [hKB] at hke
 have hb0:=hb
 obtain ⟨aB,nB,cB,rfl⟩:=hb.1.shape
 have hnB:=hb.1.le i1_len (by omega)
 subst hnB
 unfold NdP BegP
 refine walk [] [] (det0_ok _ _) Tryz.func87 rfl Tryz.ntmps87 res87 (by kernel_rfl) (H0:=[mapO .i64 bm K,mapO .u64 bn M]) (mm_ok hne hm hn) ?_
 simp (config := { maxSteps := 4000000 }) only [↓sxw,sxw,tf87,sxu,sxl,sxm,simprocAttr,dn]
 refine CallOb.mutH (A:=[mapO .i64 bm K,mapO .u64 bn M]) (B:=[]) (HImp.refl _ _) fps_mm (fun w' hp=>by rw [fpsx_mm]; exact hke w' hp) ?_ (Post:=NdP x bm bn K fun r _=>r = .bool KB)
 rintro r N ⟨K1,M1,D1,rfl,hK1,hM1,rfl⟩
 cases KB with
 | false=>
  rw [if_neg Bool.false_ne_true] at hbF
  refine ⟨?_⟩
  simp (config := { maxSteps := 4000000 }) only [↓sxw,sxw,tf87,sxu,sxl,sxm,simprocAttr,dn]
  first | exact ⟨_,List.Sublist.refl _,K1,M1,D1,rfl,hK1,hM1,.inl ⟨hbF,rfl⟩⟩ | exact ⟨_,List.Sublist.refl _,K1,M1,D1,rfl,hK1,hM1,.inl hbF⟩
 | true=>
 rw [if_pos rfl] at hbF
 by_cases hful:beg.length = l.length
 ·have z1:((beg.length:Int) = (l.length:Int)) = True:=eq_true (by omega)
  rw [if_pos hful] at hbF
  refine ⟨?_⟩
  simp (config := { maxSteps := 4000000 }) only [↓sxw,sxw,tf87,sxu,sxl,sxm,simprocAttr,dn]
  refine ld_olda (b:=br) (o:=1) (by simp [add_block]) r1 nr ?_
  simp (config := { maxSteps := 4000000 }) only [↓sxw,sxw,tf87,sxu,sxl,sxm,simprocAttr,z1,dn]
  exact ⟨_,List.Sublist.refl _,K1,M1,D1,rfl,hK1,hM1,.inr ⟨beg,_,hbF,rfl,.inl ⟨rfl,rfl⟩⟩⟩
 have z1:((beg.length:Int) = (l.length:Int)) = False:=eq_false (by omega)
 have z2:((beg.length:Int) < (l.length:Int)) = True:=eq_true (by omega)
 rw [if_neg hful] at hbF
 obtain ⟨u,hu⟩:∃ u,l[beg.length]? = some u:=⟨_,List.getElem?_eq_getElem (by omega)⟩
 have huo:=hl u (List.mem_of_getElem? hu)
 have hud:l.getD beg.length rft0 = u:=by rw [List.getD_eq_getElem?_getD,hu]; rfl
 rw [hud] at hbF
 obtain ⟨ub,uf,ul,ud⟩:=u
 obtain ⟨CN,hCN⟩:∃ n,cntR ⟨ub,uf,ul,ud⟩ = n:=⟨_,rfl⟩
 have hcn:CN = (ul - ud - uf + 2).toNat:=by rw [← hCN]; rfl
 rw [hCN] at hbF
 simp only [] at huo hbF
 obtain ⟨G,hG⟩:∃ G:Nat → Option (List Int),(fun j:Nat=>begF x l relief days f (beg ++ [uf + (j:Int)])) = G:=⟨_,rfl⟩
 have hGe:∀ j:Nat,G j = begF x l relief days f (beg ++ [uf + (j:Int)]):=fun j=>by rw [← hG]
 rw [hG] at hbF
 refine ⟨?_⟩
 simp (config := { maxSteps := 4000000 }) only [↓sxw,sxw,tf87,sxu,sxl,sxm,simprocAttr,dn]
 refine ld_olda (b:=br) (o:=1) (by simp [add_block]) r1 nr ?_
 simp (config := { maxSteps := 4000000 }) only [↓sxw,sxw,tf87,sxu,sxl,sxm,simprocAttr,z1,dn]
 refine ld_olda (b:=br) (o:=1) (by simp [add_block]) r1 nr ?_
 simp (config := { maxSteps := 4000000 }) only [↓sxw,sxw,tf87,sxu,sxl,sxm,simprocAttr,z2,dn]
 first | refine amid (at_n (hrL _) rfc_len (by omega) hu fun ad2=>?_) | refine at_n (hrL _) rfc_len (by omega) hu fun ad2=>?_
 unfold rfc
 simp (config := { maxSteps := 4000000 }) only [↓sxw,sxw,tf87,sxu,sxl,sxm,simprocAttr,dn]
 refine loop_constH (mapO .i64 bm K1 :: mapO .u64 bn M1 :: D1) (HImp.refl _ _) [(4,5),(7,9),(33,54)] (fun j:Nat=>[(7,I (uf + (j:Int)))]) (fun j H1=>j ≤ CN ∧ (∃ K2 M2 D2,H1 = mapO .i64 bm K2 :: mapO .u64 bn M2 :: D2 ∧ (∀ e ∈ K2,e ∈ K ∨ RwD x D2 e) ∧ MOk x M2) ∧ RES = ((List.range CN).drop j).findSome? G) (fun j=>CN - j) 0 ?_ ⟨Nat.zero_le _,⟨K1,M1,D1,rfl,hK1,hM1⟩,hbF⟩ ?_
 ·simp (config := { maxSteps := 4000000 }) only [↓sxw,sxw,tf87,sxu,sxl,sxm,simprocAttr]
  try simp
 rintro j H1 g1 ⟨hj,⟨K2,M2,D2,rfl,hK2,hM2⟩,hinv⟩
 have e9:wr (uf + (j:Int) + ud) = uf + (j:Int) + ud:=wrap_id (by omega)
 have e10:wr (uf + (j:Int) + ud - 1) = uf + (j:Int) + ud - 1:=wrap_id (by omega)
 by_cases hjn:j = CN
 ·have e7:(uf + (j:Int) + ud - 1 ≤ ul) = False:=eq_false (by omega)
  rw [List.drop_of_length_le (by rw [List.length_range]; omega)] at hinv
  refine ⟨?_⟩
  simp (config := { maxSteps := 4000000 }) only [↓sxw,sxw,tf87,sxu,sxl,sxm,simprocAttr,e9,e10,e7,dn]
  first | exact ⟨_,List.Sublist.refl _,K2,M2,D2,rfl,hK2,hM2,.inl ⟨hinv,rfl⟩⟩ | exact ⟨_,List.Sublist.refl _,K2,M2,D2,rfl,hK2,hM2,.inl hinv⟩
 have e7:(uf + (j:Int) + ud - 1 ≤ ul) = True:=eq_true (by omega)
 have e8:wr (uf + (j:Int) + 1) = uf + ((j + 1:Nat):Int):=(wrap_id (by omega)).trans (by omega)
 have hrj:(List.range CN)[j]? = some j:=List.getElem?_range (by omega)
 have hgj:=hGe j
 refine ⟨?_⟩
 simp (config := { maxSteps := 4000000 }) only [↓sxw,sxw,tf87,sxu,sxl,sxm,simprocAttr,e9,e10,e7,dn]
 refine CallOb.pureH (fun w' hp=>hcl _ w' hp) ?_
 rintro r N ⟨a2,c2,rfl,hcn2⟩
 refine ⟨?_⟩
 simp (config := { maxSteps := 4000000 }) only [↓sxw,sxw,tf87,sxu,sxl,sxm,simprocAttr,dn]
 intro b4
 refine app_one (f:=i1) (l:=beg) (uf + (j:Int)) (hcn2 _ _) i1_len i1_one (by omega) fun ad4 c4=>?_
 simp (config := { maxSteps := 4000000 }) only [↓sxw,sxw,tf87,sxu,sxl,sxm,simprocAttr,dn]
 obtain ⟨RW,hRW⟩:∃ R,HO.row (.slice (some ad4) (beg.length + 1) c4) 3 1 (cat i1 (beg ++ [uf + (j:Int)])) = R:=⟨_,rfl⟩
 have hK2':∀ e ∈ K2,e ∈ K ∨ RwD x (RW :: D2) e:=fun e he=>(hK2 e he).imp_right fun h=>h.mono fun g hg=>List.mem_cons_of_mem _ hg
 have hbl2:(beg ++ [uf + (j:Int)]).length = beg.length + 1:=by rw [List.length_append,List.length_singleton]
 have hih:=fun w' (hp:Hp ⟨w,mm bm bn⟩ ([mapO .i64 bm K2,mapO .u64 bn M2] ++ (RW :: D2)) w')=>ih w' (hc.keep hp.ext) (hr.keep hp.ext) K2 M2 (hp.ok _ (by simp)) (hp.ok _ (by simp)) (hK.of2 hK2' hp) hM2 (.slice (some ad4) (beg.length + 1) c4) (beg ++ [uf + (j:Int)]) (by
  have:=slx_row (A:=[mapO .i64 bm K2,mapO .u64 bn M2]) (B:=RW :: D2) (v:=.slice (some ad4) (beg.length + 1) c4) (e:=3) (sz:=1) (xs:=cat i1 (beg ++ [uf + (j:Int)])) (by rw [hRW]; exact List.mem_cons_self) hp
  rw [fpsx_mm] at this
  exact this) (fun b hb=>by
  rcases List.mem_append.1 hb with hb | hb
  ·exact hbo b hb
  ·rw [List.mem_singleton.1 hb]; omega) (by omega) (by omega)
 rw [← hgj] at hih
 rw [hRW]
 refine CallOb.mutH (A:=[mapO .i64 bm K2,mapO .u64 bn M2]) (B:=RW :: D2) (HImp.perm ((List.Perm.swap _ _ _).trans (List.Perm.cons _ (List.Perm.swap _ _ _)))) fps_mm (fun w' hp=>by rw [fpsx_mm]; exact hih w' hp) ?_ (Post:=NdP x bm bn K2 (BegP (.slice (some ad4) (beg.length + 1) c4) (beg ++ [uf + (j:Int)]) (G j)))
 rintro r N3 ⟨K3,M3,D3,rfl,hK3,hM3,hres⟩
 have hK4:=tim_merge hK2' hK3
 rcases hres with ⟨hres,rfl⟩ | ⟨L,y,hres,rfl,hy⟩
 ·rw [findSome_drop hrj hres] at hinv
  refine ⟨?_⟩
  simp (config := { maxSteps := 4000000 }) only [↓sxw,sxw,tf87,sxu,sxl,sxm,simprocAttr,e8,dn]
  exact ⟨j + 1,_,rfl,HImp.refl _ _,⟨by omega,⟨K3,M3,D3 ++ (RW :: D2),rfl,hK4,hM3⟩,hinv⟩,by omega⟩
 ·rw [findSome_hit hrj hres] at hinv
  refine ⟨?_⟩
  simp (config := { maxSteps := 4000000 }) only [↓sxw,sxw,tf87,sxu,sxl,sxm,simprocAttr,dn]
  refine ⟨_,List.Sublist.refl _,K3,M3,D3 ++ (RW :: D2),rfl,hK4,hM3,.inr ⟨L,y,hinv,rfl,.inr ?_⟩⟩
  rcases hy with ⟨rfl,rfl⟩ | hy
  ·rw [← hRW]
   exact List.mem_append_right _ List.mem_cons_self
  ·exact List.mem_append_left _ hy
end Go.Proofs.YtljpknnhimkkjaaGreatDoor

namespace Go.Proofs.YtljpknnhimkkjaaGreatDoor
open Go.RowKit Go.SX
set_option maxRecDepth 10000
set_option maxHeartbeats 0
set_option linter.unusedSimpArgs false
set_option linter.unusedVariables false
def rftB (n days:Int) (s:Nat) (u:Rft):Bool:=inB u.base 0 (n - 1) && !s.testBit u.base.toNat && (inB u.first 0 u.last && decide (u.last < days) && inB u.days 1 (u.last - u.first + 1))
def vldB (n days:Int):Nat → List Rft → Bool
 | _,[]=>true
 | s,u :: l=>rftB n days s u && vldB n days (s ||| 2 ^ u.base.toNat) l
def pl136_1:Plan:=(ones [0,1,2,3,4,5,6,7,8,9,10,11,12,13,14,15,16,17,18,19] .fin)
def pl136_4:Plan:=(ones [0,1,2,3,4,5,6,7,8,9,10,11,12,13,14,15,16,17,18,19,20,21,22,23,24,25] .fin)
def pl136:List (Nat × Plan):=[(1,pl136_1),(4,pl136_4)]
theorem pl136_lk:(lkO 1 pl136 = some pl136_1) ∧ (lkO 4 pl136 = some pl136_4):=⟨rfl,rfl⟩
theorem told136_fn (w:World) (bc bm br bn b1 b3:Nat) (sD sT sS vb vm:Value) (x:Cst) (pb:List Bm) (vr:Value) (l:List Rft) (relief days:Int) (hc:CoW w (fun b=>b = b3) bc bm sD sT sS vb vm x pb) (hr:RoW w (fun b=>b = b3) br bc bn vr l relief days) (hnb:1 ≤ x.bases.length ∧ x.bases.length ≤ 5) (hdy:days ≤ 100) (h1:w.cell? ⟨b1,0,none⟩ = some (.pointer (some ⟨br,0,none⟩))) (hne:b1 ≠ b3) (u:Rft) (s:Nat) (hs:s < 32) (hok:HO.ok w (HO.cells b3 152 [.int .u64 s])):
  SX.Fn Tryz.prog 136 [.agg #[I u.base,I u.first,I u.last,I u.days],.pointer (some ⟨b1,0,none⟩),.pointer (some ⟨b3,0,none⟩)] w (fun b=>b = b3) fun r N=>r = .bool (rftB (x.bases.length:Int) days s u) ∧ (rftB (x.bases.length:Int) days s u = true → N = [HO.cells b3 152 [.int .u64 ((s ||| 2 ^ u.base.toNat:Nat):Int)]]):=by
 have dn:(∀ xs,detV 134 xs = none) ∧ (∀ xs,detV 133 xs = none):=⟨fun _=>rfl,fun _=>rfl⟩
 refine Fn.sub ?_
 have nc:¬ (bc = b3):=hc.nc
 have nr:¬ (br = b3):=hr.nr
 have c5:=hc.cel 5 _ rfl
 have r0:=hr.cel 0 _ rfl
 have r3:=hr.cel 3 _ rfl
 have hpl:pb.length = x.bases.length:=by rw [← hc.fst,List.length_map]
 obtain ⟨aB,nB,cB,rfl⟩:=hc.bas.1.shape
 have hnB:=hc.bas.1.le bac_len (by omega)
 subst hnB
 rw [← hpl]
 rw [← hpl] at hnb
 have e2:wr ((pb.length:Int) - 1) = (pb.length:Int) - 1:=wrap_id (by omega)
 obtain ⟨ub,uf,ul,ud⟩:=u
 unfold rftB
 simp only []
 refine walk [] pl136 (detV_ok _ _) Tryz.func136 rfl Tryz.ntmps136 res136 (by kernel_rfl) (H0:=[HO.cells b3 152 [.int .u64 s]]) ⟨fun g hg=>by rw [List.mem_singleton] at hg; subst hg; exact hok,fun g hg b hb=>by rw [List.mem_singleton] at hg; subst hg; exact hb,List.pairwise_singleton _ _⟩ ?_
 simp (config := { maxSteps := 4000000 }) only [↓sxw,sxw,tf136,sxu,sxl,sxm,simprocAttr,dn,pl136_lk,pl136_1]
 refine ld_olda (b:=b1) (o:=0) (by simp [add_block]) h1 hne ?_
 simp (config := { maxSteps := 4000000 }) only [↓sxw,sxw,tf136,sxu,sxl,sxm,simprocAttr,dn]
 refine ld_olda (b:=br) (o:=0) (by simp [add_block]) r0 nr ?_
 simp (config := { maxSteps := 4000000 }) only [↓sxw,sxw,tf136,sxu,sxl,sxm,simprocAttr,dn]
 refine ld_olda (b:=bc) (o:=5) (by simp [add_block]) c5 nc ?_
 cases q1:inB ub 0 ((pb.length:Int) - 1) with
 | false=>
  simp (config := { maxSteps := 4000000 }) only [↓sxw,sxw,tf136,sxu,sxl,sxm,simprocAttr,detV_eq,e2,q1,dn]
  first | exact ⟨_,List.Sublist.refl _,fun h=>by cases h⟩ | exact ⟨_,List.Sublist.refl _⟩ | (simp; done)
 | true=>
 have hub:=(inB_iff _ _ _).1 q1
 obtain ⟨b,rfl⟩:∃ b:Nat,ub = b:=⟨ub.toNat,by omega⟩
 rw [Int.toNat_natCast]
 have hha:=fun w'=>fhas_fn w' s b hs (by omega)
 obtain ⟨B,hB⟩:∃ B,s.testBit b = B:=⟨_,rfl⟩
 rw [hB]
 simp only [hB] at hha
 simp (config := { maxSteps := 4000000 }) only [↓sxw,sxw,tf136,sxu,sxl,sxm,simprocAttr,detV_eq,e2,q1,dn]
 refine ld_cell List.mem_cons_self rfl ?_
 simp (config := { maxSteps := 4000000 }) only [↓sxw,sxw,tf136,sxu,sxl,sxm,simprocAttr,dn]
 refine CallOb.pureH (fun w' hp=>hha w') ?_
 rintro r N rfl
 cases B with
 | true=>
  refine ⟨?_⟩
  simp (config := { maxSteps := 4000000 }) only [↓sxw,sxw,tf136,sxu,sxl,sxm,simprocAttr,dn]
  first | exact ⟨_,List.Sublist.refl _,rfl,fun h=>by cases h⟩ | exact ⟨_,List.Sublist.refl _,fun h=>by cases h⟩ | exact ⟨_,List.Sublist.refl _⟩ | (simp; done)
 | false=>
 refine ⟨?_⟩
 simp (config := { maxSteps := 4000000 }) only [↓sxw,sxw,tf136,sxu,sxl,sxm,simprocAttr,dn]
 refine ld_cell (T:=152) (cs:=[.int .u64 s]) (by simp) rfl ?_
 simp (config := { maxSteps := 4000000 }) only [↓sxw,sxw,tf136,sxu,sxl,sxm,simprocAttr,dn]
 refine CallOb.pureH (fun w' hp=>fwith_fn w' s b hs (by omega)) ?_
 rintro r N2 rfl
 obtain ⟨S2,hS2⟩:∃ S2,s ||| 2 ^ b = S2:=⟨_,rfl⟩
 rw [hS2]
 refine ⟨?_⟩
 simp (config := { maxSteps := 4000000 }) only [↓sxw,sxw,tf136,sxu,sxl,sxm,simprocAttr,dn]
 refine wr_cell (A:=N2 ++ N) (T:=152) (cs:=[.int .u64 s]) (B:=[]) (by rw [List.append_assoc]) (by simp) ?_
 cases q2:inB uf 0 ul with
 | false=>
  simp (config := { maxSteps := 4000000 }) only [↓sxw,sxw,tf136,sxu,sxl,sxm,simprocAttr,detV_eq,q2,dn,pl136_lk,pl136_4]
  first | exact ⟨_,List.Sublist.refl _,rfl,fun h=>by cases h⟩ | exact ⟨_,List.Sublist.refl _,fun h=>by cases h⟩ | exact ⟨_,List.Sublist.refl _⟩ | (simp; done)
 | true=>
 have hq2:=(inB_iff _ _ _).1 q2
 by_cases q3:ul < days
 case neg=>
  have z3:(ul < days) = False:=eq_false q3
  simp (config := { maxSteps := 4000000 }) only [↓sxw,sxw,tf136,sxu,sxl,sxm,simprocAttr,detV_eq,q2,dn,pl136_lk,pl136_4]
  refine ld_olda (b:=b1) (o:=0) (by simp [add_block]) h1 hne ?_
  simp (config := { maxSteps := 4000000 }) only [↓sxw,sxw,tf136,sxu,sxl,sxm,simprocAttr,dn]
  refine ld_olda (b:=br) (o:=3) (by simp [add_block]) r3 nr ?_
  simp (config := { maxSteps := 4000000 }) only [↓sxw,sxw,tf136,sxu,sxl,sxm,simprocAttr,z3,dn]
  first | exact ⟨_,List.Sublist.refl _,rfl,fun h=>by cases h⟩ | exact ⟨_,List.Sublist.refl _,fun h=>by cases h⟩ | exact ⟨_,List.Sublist.refl _⟩ | (simp; done)
 have z3:(ul < days) = True:=eq_true q3
 have e4:wr (ul - uf) = ul - uf:=wrap_id (by omega)
 have e5:wr (ul - uf + 1) = ul - uf + 1:=wrap_id (by omega)
 simp (config := { maxSteps := 4000000 }) only [↓sxw,sxw,tf136,sxu,sxl,sxm,simprocAttr,detV_eq,q2,dn,pl136_lk,pl136_4]
 refine ld_olda (b:=b1) (o:=0) (by simp [add_block]) h1 hne ?_
 simp (config := { maxSteps := 4000000 }) only [↓sxw,sxw,tf136,sxu,sxl,sxm,simprocAttr,dn]
 refine ld_olda (b:=br) (o:=3) (by simp [add_block]) r3 nr ?_
 cases q4:inB ud 1 (ul - uf + 1) with
 | false=>
  simp (config := { maxSteps := 4000000 }) only [↓sxw,sxw,tf136,sxu,sxl,sxm,simprocAttr,z3,detV_eq,e4,e5,q4,dn]
  first | exact ⟨_,List.Sublist.refl _,rfl,fun h=>by cases h⟩ | exact ⟨_,List.Sublist.refl _,fun h=>by cases h⟩ | exact ⟨_,List.Sublist.refl _⟩ | (simp; done)
 | true=>
  simp (config := { maxSteps := 4000000 }) only [↓sxw,sxw,tf136,sxu,sxl,sxm,simprocAttr,z3,detV_eq,e4,e5,q4,dn]
  first | exact ⟨_,List.sublist_append_right _ _,rfl,fun _=>rfl⟩ | exact ⟨_,List.sublist_append_right _ _,fun _=>rfl⟩ | exact ⟨_,List.sublist_append_right _ _,rfl⟩
end Go.Proofs.YtljpknnhimkkjaaGreatDoor

namespace Go.Proofs.YtljpknnhimkkjaaGreatDoor
open Go.RowKit Go.SX
set_option maxRecDepth 10000
set_option maxHeartbeats 0
set_option linter.unusedSimpArgs false
set_option linter.unusedVariables false
theorem cells_fpsx (T b:Nat) (vs:List Value):fpsx [HO.cells b T vs] = fun k=>k = b:=by
 funext k
 apply propext
 constructor
 ·rintro ⟨h,hh,hb⟩
  rw [List.mem_singleton] at hh
  subst hh
  exact hb
 ·rintro rfl
  exact ⟨_,List.mem_singleton.2 rfl,rfl⟩
theorem cells_fps (T b:Nat) (vs:List Value) (k:Nat):fps [HO.cells b T vs] k → fpsx [HO.cells b T vs] k:=fun ⟨h,hh,hb⟩=>⟨h,hh,by
 rw [List.mem_singleton] at hh
 subst hh
 exact hb⟩
theorem RoW.newX {w w':World} {A B:List HO} {br bc bn:Nat} {vr:Value} {l:List Rft} {relief days:Int} (h:RoW w (fun _=>False) br bc bn vr l relief days) (hp:Hp ⟨w,fun _=>False⟩ (A ++ B) w'):RoW w' (fpsx A) br bc bn vr l relief days:=
 ⟨new_fpsx hp (World.block_lt_of_cell? w ⟨br,0,none⟩ (h.cel 0 _ rfl)),(h.keep hp.ext).cel,slx_old h.lst.1 hp⟩
theorem allR_fn (w:World) (bc bm br bn b1 b3:Nat) (sD sT sS vb vm:Value) (x:Cst) (pb:List Bm) (vr:Value) (l:List Rft) (relief days:Int) (hc:CoW w (fun b=>b = b3) bc bm sD sT sS vb vm x pb) (hr:RoW w (fun b=>b = b3) br bc bn vr l relief days) (hnb:1 ≤ x.bases.length ∧ x.bases.length ≤ 5) (hdy:days ≤ 100) (h1:w.cell? ⟨b1,0,none⟩ = some (.pointer (some ⟨br,0,none⟩))) (hne:b1 ≠ b3) (hok:HO.ok w (HO.cells b3 152 [.int .u64 0])) (hll:l.length ≤ 1000):
  SX.Fn Tryz.prog 135 [vr,.func (.func 136) #[] #[.pointer (some ⟨b1,0,none⟩),.pointer (some ⟨b3,0,none⟩)]] w (fun b=>b = b3) fun r N=>r = .bool (vldB (x.bases.length:Int) days 0 l):=by
 have dn:∀ (g:Nat) (xs:List Value),det0 g xs = none:=fun _ _=>rfl
 have hto:=fun (u:Rft) (s:Nat) (hs:s < 32) w' (hp:Hp ⟨w,fun b=>b = b3⟩ ([HO.cells b3 152 [.int .u64 s]] ++ []) w')=>told136_fn w' bc bm br bn b1 b3 sD sT sS vb vm x pb vr l relief days (hc.keep hp.ext) (hr.keep hp.ext) hnb hdy (by
  rw [World.cell?_of_block (w:=w) (hp.ext.block b1 (World.block_lt_of_cell? w ⟨b1,0,none⟩ h1) hne)]
  exact h1) hne u s hs (hp.ok _ (by simp))
 have hrr:=hr.lst.rdv
 obtain ⟨a,n,c,rfl⟩:=hr.lst.1.shape
 have hn:=hr.lst.1.le rfc_len (by omega)
 subst hn
 refine walk [] [] (det0_ok _ _) Tryz.func135 rfl Tryz.ntmps135 res135 (by kernel_rfl) (H0:=[HO.cells b3 152 [.int .u64 0]]) ⟨fun g hg=>by rw [List.mem_singleton] at hg; subst hg; exact hok,fun g hg b hb=>by rw [List.mem_singleton] at hg; subst hg; exact hb,List.pairwise_singleton _ _⟩ ?_
 simp (config := { maxSteps := 4000000 }) only [↓sxw,sxw,tf135,sxu,sxl,sxm,simprocAttr,dn]
 refine loop_constH [HO.cells b3 152 [.int .u64 ((0:Nat):Int)]] (HImp.refl _ _) [(4,4),(6,6),(9,17)] (fun q:Nat × Nat=>[(9,I q.1)]) (fun q H1=>q.1 ≤ l.length ∧ q.2 < 32 ∧ H1 = [HO.cells b3 152 [.int .u64 q.2]] ∧ vldB (x.bases.length:Int) days 0 l = vldB (x.bases.length:Int) days q.2 (l.drop q.1)) (fun q=>l.length - q.1) (0,0) ?_ ⟨Nat.zero_le _,by simp,rfl,rfl⟩ ?_
 ·simp (config := { maxSteps := 4000000 }) only [↓sxw,sxw,tf135,sxu,sxl,sxm,simprocAttr]
  try simp
 rintro ⟨i,s⟩ H1 g1 hinv0
 simp only [] at hinv0
 obtain ⟨hi,hs,rfl,hinv⟩:=hinv0
 by_cases hin:i = l.length
 ·have e7:((i:Int) < (l.length:Int)) = False:=eq_false (by omega)
  rw [List.drop_of_length_le (by omega),vldB] at hinv
  rw [hinv]
  refine ⟨?_⟩
  simp (config := { maxSteps := 4000000 }) only [↓sxw,sxw,tf135,sxu,sxl,sxm,simprocAttr,e7,dn]
  try rfl
 have e7:((i:Int) < (l.length:Int)) = True:=eq_true (by omega)
 have e8:wr (i + 1) = ((i + 1:Nat):Int):=(wrap_id (by omega)).trans (by omega)
 have hil:i < l.length:=by omega
 have hu:=List.getElem?_eq_getElem hil
 rw [List.drop_eq_getElem_cons hil,vldB] at hinv
 generalize l[i] = u at hu hinv
 have hty:=hto u s hs
 have hlt:rftB (x.bases.length:Int) days s u = true → s ||| 2 ^ u.base.toNat < 32:=fun h=>by
  unfold rftB at h
  simp only [Bool.and_eq_true,inB_iff] at h
  exact or8_lt ⟨s,hs⟩ ⟨u.base.toNat,by omega⟩
 obtain ⟨B,hB⟩:∃ B,rftB (x.bases.length:Int) days s u = B:=⟨_,rfl⟩
 rw [hB] at hinv hlt
 simp only [hB] at hty
 refine ⟨?_⟩
 simp (config := { maxSteps := 4000000 }) only [↓sxw,sxw,tf135,sxu,sxl,sxm,simprocAttr,e7,dn]
 refine amid (at_n (hrr _) rfc_len (by omega) hu fun ad=>?_)
 unfold rfc
 simp (config := { maxSteps := 4000000 }) only [↓sxw,sxw,tf135,sxu,sxl,sxm,simprocAttr,dn]
 refine ⟨Tryz.call136,?_⟩
 refine CallOb.mutH (A:=[HO.cells b3 152 [.int .u64 s]]) (B:=[]) (HImp.refl _ _) (cells_fps _ _ _) (fun w' hp=>by rw [cells_fpsx]; exact hty w' hp) ?_ (Post:=fun r N=>r = .bool B ∧ (B = true → N = [HO.cells b3 152 [.int .u64 ((s ||| 2 ^ u.base.toNat:Nat):Int)]]))
 rintro r N ⟨rfl,hN⟩
 cases B with
 | false=>
  rw [Bool.false_and] at hinv
  rw [hinv]
  refine ⟨?_⟩
  simp (config := { maxSteps := 4000000 }) only [↓sxw,sxw,tf135,sxu,sxl,sxm,simprocAttr,dn]
  try rfl
 | true=>
  rw [Bool.true_and] at hinv
  have hN:=hN rfl
  subst hN
  refine ⟨?_⟩
  simp (config := { maxSteps := 4000000 }) only [↓sxw,sxw,tf135,sxu,sxl,sxm,simprocAttr,e8,dn]
  exact ⟨(i + 1,s ||| 2 ^ u.base.toNat),_,rfl,HImp.refl _ _,⟨by simp only []; omega,hlt rfl,rfl,hinv⟩,by simp only []; omega⟩
theorem valid_fn (w:World) (bc bm br bn:Nat) (sD sT sS vb vm:Value) (x:Cst) (pb:List Bm) (vr:Value) (l:List Rft) (relief days:Int) (hc:CoW w (fun _=>False) bc bm sD sT sS vb vm x pb) (hr:RoW w (fun _=>False) br bc bn vr l relief days) (hnb:1 ≤ x.bases.length ∧ x.bases.length ≤ 5) (hdy:days ≤ 100) (hll:l.length ≤ 1000):
  SX.Fn Tryz.prog 86 [.pointer (some ⟨br,0,none⟩)] w (fun _=>False) fun r N=>r = .bool (decide (l.length ≤ 5) && vldB (x.bases.length:Int) days 0 l):=by
 have dn:∀ (g:Nat) (xs:List Value),det0 g xs = none:=fun _ _=>rfl
 have r1:=hr.cel 1 _ rfl
 have hal:=fun (b1 b3:Nat) w' (hp:Hp ⟨w,fun _=>False⟩ ([HO.cells b3 152 [.int .u64 0]] ++ [HO.cells b1 158 [.pointer (some ⟨br,0,none⟩)]]) w')=>by
  have q1:=CoW.newX hc hp
  have q2:=RoW.newX hr hp
  have q3:=not_fpsx hp (g:=HO.cells b1 158 [.pointer (some ⟨br,0,none⟩)]) (by simp) (b:=b1) rfl
  rw [cells_fpsx] at q1 q2 q3
  exact allR_fn w' bc bm br bn b1 b3 sD sT sS vb vm x pb vr l relief days q1 q2 hnb hdy (by rw [cell_of_cells (hp.ok (HO.cells b1 158 [.pointer (some ⟨br,0,none⟩)]) (by simp))]; rfl) q3 (hp.ok _ (by simp)) hll
 obtain ⟨a,n,c,rfl⟩:=hr.lst.1.shape
 have hn:=hr.lst.1.le rfc_len (by omega)
 subst hn
 refine walk [1,3] [] (det0_ok _ _) Tryz.func86 rfl Tryz.ntmps86 res86 (by kernel_rfl) no_facts ?_
 simp (config := { maxSteps := 4000000 }) only [↓sxw,sxw,tf86,sxu,sxl,sxm,simprocAttr,dn]
 intro b1
 refine ld_cell List.mem_cons_self rfl ?_
 simp (config := { maxSteps := 4000000 }) only [↓sxw,sxw,tf86,sxu,sxl,sxm,simprocAttr,dn]
 refine ld_olda (b:=br) (o:=1) (by simp [add_block]) r1 id ?_
 by_cases h5:l.length ≤ 5
 case neg=>
  have z1:((l.length:Int) > 5) = True:=eq_true (by omega)
  rw [decide_eq_false h5,Bool.false_and]
  simp (config := { maxSteps := 4000000 }) only [↓sxw,sxw,tf86,sxu,sxl,sxm,simprocAttr,z1,dn]
  try rfl
 have z1:((l.length:Int) > 5) = False:=eq_false (by omega)
 rw [decide_eq_true h5,Bool.true_and]
 simp (config := { maxSteps := 4000000 }) only [↓sxw,sxw,tf86,sxu,sxl,sxm,simprocAttr,z1,dn]
 intro b3
 refine ld_cell (T:=158) (cs:=[.pointer (some ⟨br,0,none⟩)]) (by simp) rfl ?_
 simp (config := { maxSteps := 4000000 }) only [↓sxw,sxw,tf86,sxu,sxl,sxm,simprocAttr,dn]
 refine ld_olda (b:=br) (o:=1) (by simp [add_block]) r1 id ?_
 simp (config := { maxSteps := 4000000 }) only [↓sxw,sxw,tf86,sxu,sxl,sxm,simprocAttr,dn]
 refine CallOb.mutH (A:=[HO.cells b3 152 [.int .u64 0]]) (B:=[HO.cells b1 158 [.pointer (some ⟨br,0,none⟩)]]) (HImp.refl _ _) (cells_fps _ _ _) (fun w' hp=>by rw [cells_fpsx]; exact hal b1 b3 w' hp) ?_ (Post:=fun r N=>r = .bool (vldB (x.bases.length:Int) days 0 l))
 rintro r N rfl
 refine ⟨?_⟩
 simp (config := { maxSteps := 4000000 }) only [↓sxw,sxw,tf86,sxu,sxl,sxm,simprocAttr,dn]
 try rfl
end Go.Proofs.YtljpknnhimkkjaaGreatDoor

namespace Go.Proofs.YtljpknnhimkkjaaGreatDoor
open Go.RowKit Go.SX
set_option maxRecDepth 10000
set_option maxHeartbeats 0
set_option linter.unusedSimpArgs false
set_option linter.unusedVariables false
theorem vldB_ok {n days:Int} (hn:n ≤ 5) (hd:days ≤ 100):∀ {l:List Rft} {s:Nat},vldB n days s l = true → RftOk l
 | [],_,_=>fun r hr=>by cases hr
 | u :: l,s,h=>fun r hr=>by
  rw [vldB,Bool.and_eq_true] at h
  rcases List.mem_cons.1 hr with rfl | hr
  ·have h1:=h.1
   unfold rftB at h1
   simp only [Bool.and_eq_true,inB_iff,decide_eq_true_eq] at h1
   omega
  ·exact vldB_ok hn hd h.2 r hr
theorem RoW.of {w w':World} {A B:List HO} {br bc bn:Nat} {vr:Value} {l:List Rft} {relief days:Int} (hp:Hp ⟨w,fun _=>False⟩ (A ++ B) w') (hm:HO.cells br 161 [.pointer (some ⟨bc,0,none⟩),vr,I relief,I days,.map (some bn)] ∈ B) (hl:Sl w vr 4 (cat rfc l)):RoW w' (fpsx A) br bc bn vr l relief days:=
 ⟨not_fpsx hp hm rfl,fun i u hu=>by
  rw [cell_of_cells (hp.ok _ (List.mem_append_right _ hm))]
  simpa using hu,slx_old hl hp⟩
theorem told85_fn (w:World) (bc b6 b7:Nat) (relief days:Int) (h6:w.cell? ⟨b6,0,none⟩ = some (I relief)) (h7:w.cell? ⟨b7,0,none⟩ = some (I days)):
  SX.Fn Tryz.prog 85 [.pointer (some ⟨bc,0,none⟩),.pointer (some ⟨b6,0,none⟩),.pointer (some ⟨b7,0,none⟩)] w (fun _=>False) fun r N=>r = .bool (inB relief 0 5 && inB days 1 20):=by
 refine walk [] [] (detV_ok _ _) Tryz.func85 rfl Tryz.ntmps85 res85 (by kernel_rfl) no_facts ?_
 cases q1:inB relief 0 5 with
 | false=>
  simp (config := { maxSteps := 4000000 }) only [↓sxw,sxw,tf85,sxu,sxl,sxm,simprocAttr]
  refine ld_olda (b:=b6) (o:=0) (by simp [add_block]) h6 id ?_
  simp (config := { maxSteps := 4000000 }) only [↓sxw,sxw,tf85,sxu,sxl,sxm,simprocAttr,detV_eq,q1]
  try rfl
 | true=>
  simp (config := { maxSteps := 4000000 }) only [↓sxw,sxw,tf85,sxu,sxl,sxm,simprocAttr]
  refine ld_olda (b:=b6) (o:=0) (by simp [add_block]) h6 id ?_
  simp (config := { maxSteps := 4000000 }) only [↓sxw,sxw,tf85,sxu,sxl,sxm,simprocAttr,detV_eq,q1]
  refine ld_olda (b:=b7) (o:=0) (by simp [add_block]) h7 id ?_
  simp (config := { maxSteps := 4000000 }) only [↓sxw,sxw,tf85,sxu,sxl,sxm,simprocAttr,detV_eq,q1]
  try rfl
noncomputable def rotO (x:Cst) (l:List Rft) (relief days:Int):Option (List Int):=begF x l relief days.toNat (l.length + 1) []
noncomputable def rotE (x:Cst) (l:List Rft) (relief days:Int):Int:=if x.okB then (if inB relief 0 5 && inB days 1 20 then (if decide (l.length ≤ 5) && vldB (x.bases.length:Int) days 0 l then (if (rotO x l relief days).isSome then 0 else 3) else 81) else 1) else 80
def RotP (x:Cst) (l:List Rft) (relief days:Int) (r:Value) (N:List HO):Prop:=(rotE x l relief days ≠ 0 ∧ r = .tuple #[.slice none 0 0,I (rotE x l relief days)]) ∨ (rotE x l relief days = 0 ∧ ∃ L y,rotO x l relief days = some L ∧ r = .tuple #[y,I 0] ∧ ((y = .slice none 0 0 ∧ L = []) ∨ HO.row y 3 1 (ints L) ∈ N))
theorem Rotate_fn (w:World) (hw:Ways w) (v:Value) (x:Cst) (hx:CoOk w v x) (hsm:x.small) (vr:Value) (l:List Rft) (hl:Sl w vr 4 (cat rfc l)) (hll:l.length ≤ 1000) (relief days:Int):
  SX.Fn Tryz.prog 33 [v,vr,I relief,I days] w (fun _=>False) (RotP x l relief days):=by
 obtain ⟨sD,sT,sS,vb,vm,pb,rfl,hC,h2,h3,h4,h5⟩:=hx
 have dn:∀ (g:Nat) (xs:List Value),det0 g xs = none:=fun _ _=>rfl
 have has:=fun (b6 b7:Nat) (H:List HO) (hm6:HO.cells b6 3 [I relief] ∈ H) (hm7:HO.cells b7 3 [I days] ∈ H) w' (hp:Hp ⟨w,fun _=>False⟩ H w')=>ask_fn w' (hw.hp hp) sD sT sS vb vm x pb (hC.hp hp) h2 (h3.hp (fun _ _=>id) hp) (fun p hm=>(h4 p hm).hp hp) (h5.hp (fun _ _=>id) hp) hsm 85 [.pointer (some ⟨b6,0,none⟩),.pointer (some ⟨b7,0,none⟩)] Tryz.call85 (inB relief 0 5 && inB days 1 20) (fun hok w2 bc bm hco hk=>by
  have q6:w'.cell? ⟨b6,0,none⟩ = some (I relief):=by rw [cell_of_cells (hp.ok _ hm6)]; rfl
  have q7:w'.cell? ⟨b7,0,none⟩ = some (I days):=by rw [cell_of_cells (hp.ok _ hm7)]; rfl
  refine told85_fn w2 bc b6 b7 relief days ?_ ?_
  ·rw [World.cell?_of_block (w:=w') (hk.block b6 (World.block_lt_of_cell? w' ⟨b6,0,none⟩ q6) id)]
   exact q6
  ·rw [World.cell?_of_block (w:=w') (hk.block b7 (World.block_lt_of_cell? w' ⟨b7,0,none⟩ q7) id)]
   exact q7)
 have hva:=fun (hok:x.ok) (hd:days ≤ 100) (bc bm br bn:Nat) (H:List HO) (hm:HO.cells bc 117 (cov sD sT sS vb vm x ++ [.map (some bm)]) ∈ H) (hm2:HO.cells br 161 [.pointer (some ⟨bc,0,none⟩),vr,I relief,I days,.map (some bn)] ∈ H) w' (hp:Hp ⟨w,fun _=>False⟩ ([] ++ H) w')=>valid_fn w' bc bm br bn sD sT sS vb vm x pb vr l relief days ((CoW.of hp hw hm hC h2 h3 h4 h5).mono fun b hb=>hb.elim) ((RoW.of hp hm2 hl).mono fun b hb=>hb.elim) hok.nb hd hll
 have hbe:=fun (hok:x.ok) (hro:RftOk l) (hl5:l.length ≤ 5) (dd:Nat) (hd:dd ≤ 100) (hde:days = dd) (bc bm br bn:Nat) (B:List HO) (hm:HO.cells bc 117 (cov sD sT sS vb vm x ++ [.map (some bm)]) ∈ B) (hm2:HO.cells br 161 [.pointer (some ⟨bc,0,none⟩),vr,I relief,I days,.map (some bn)] ∈ B) w' (hp:Hp ⟨w,fun _=>False⟩ ([mapO .i64 bm [],mapO .u64 bn []] ++ B) w')=>by
  have hne:bm ≠ bn:=fun e=>((List.pairwise_cons.1 (List.pairwise_append.1 hp.nd).1).1 (mapO .u64 bn []) (by simp) bm rfl e).1 rfl
  have q1:=CoW.of hp hw hm hC h2 h3 h4 h5
  have q2:=RoW.of hp hm2 hl
  rw [fpsx_mm] at q1 q2
  rw [hde] at q2
  exact begins_fn bc bm br bn hne sD sT sS vb vm x pb hsm hok vr l hro (by omega) relief dd hd (l.length + 1) w' q1 q2 [] [] (hp.ok _ (by simp)) (hp.ok _ (by simp)) (fun e he=>by cases he) (fun e he=>by cases he) (.slice none 0 0) [] ⟨Sl.nil w' 1,fun h=>by simp [ints,cat] at h⟩ (fun b hb=>by cases hb) (Nat.zero_le _) (by simp)
 have hE:rotE x l relief days = if x.okB then (if inB relief 0 5 && inB days 1 20 then (if decide (l.length ≤ 5) && vldB (x.bases.length:Int) days 0 l then (if (rotO x l relief days).isSome then 0 else 3) else 81) else 1) else 80:=rfl
 unfold RotP
 obtain ⟨E,hEE⟩:∃ E,rotE x l relief days = E:=⟨_,rfl⟩
 rw [hEE] at hE ⊢
 obtain ⟨B1,hB1⟩:∃ B,(inB relief 0 5 && inB days 1 20) = B:=⟨_,rfl⟩
 obtain ⟨B2,hB2⟩:∃ B,(decide (l.length ≤ 5) && vldB (x.bases.length:Int) days 0 l) = B:=⟨_,rfl⟩
 simp only [hB1] at has hE
 simp only [hB2] at hva hE
 obtain ⟨aR,nR,cR,rfl⟩:=hl.shape
 unfold AskP at has
 unfold cov at has hva hbe ⊢
 refine walk [6,7,30] [] (det0_ok _ _) Tryz.func33 rfl Tryz.ntmps33 res33 (by kernel_rfl) no_facts ?_
 simp (config := { maxSteps := 4000000 }) only [↓sxw,sxw,tf33,sxu,sxl,sxm,simprocAttr,dn]
 intro b6 b7
 refine CallOb.pureH (fun w' hp=>has b6 b7 _ (by simp) (by simp) w' hp) ?_
 rintro r N (⟨ho,rfl,rfl⟩ | ⟨ho,bc,bm,rfl,rfl⟩)
 ·rw [ho,if_neg Bool.false_ne_true] at hE
  rw [hE]
  refine ⟨?_⟩
  simp (config := { maxSteps := 4000000 }) only [↓sxw,sxw,tf33,sxu,sxl,sxm,simprocAttr,dn]
  first | exact .inl ⟨by decide,rfl⟩ | exact .inl trivial | exact .inl (by decide)
 rw [ho,if_pos rfl] at hE
 have hok:=(Cst.okB_iff x).1 ho
 cases B1 with
 | false=>
  rw [if_neg Bool.false_ne_true] at hE
  rw [hE]
  refine ⟨?_⟩
  simp (config := { maxSteps := 4000000 }) only [↓sxw,sxw,tf33,sxu,sxl,sxm,simprocAttr,dn]
  first | exact .inl ⟨by decide,rfl⟩ | exact .inl trivial | exact .inl (by decide)
 | true=>
 rw [if_pos rfl] at hE
 rw [Bool.and_eq_true,inB_iff,inB_iff] at hB1
 refine ⟨?_⟩
 simp (config := { maxSteps := 4000000 }) only [↓sxw,sxw,tf33,sxu,sxl,sxm,simprocAttr,dn]
 refine ld_cell (T:=3) (cs:=[I relief]) (by simp) rfl ?_
 simp (config := { maxSteps := 4000000 }) only [↓sxw,sxw,tf33,sxu,sxl,sxm,simprocAttr,dn]
 refine ld_cell (T:=3) (cs:=[I days]) (by simp) rfl ?_
 simp (config := { maxSteps := 4000000 }) only [↓sxw,sxw,tf33,sxu,sxl,sxm,simprocAttr,dn]
 intro bn br
 refine CallOb.pureH (fun w' hp=>hva hok (by omega) bc bm br bn _ (by simp) (by simp) w' hp) ?_
 rintro r N rfl
 cases B2 with
 | false=>
  rw [if_neg Bool.false_ne_true] at hE
  rw [hE]
  refine ⟨?_⟩
  simp (config := { maxSteps := 4000000 }) only [↓sxw,sxw,tf33,sxu,sxl,sxm,simprocAttr,dn]
  first | exact .inl ⟨by decide,rfl⟩ | exact .inl trivial | exact .inl (by decide)
 | true=>
 rw [if_pos rfl] at hE
 rw [Bool.and_eq_true,decide_eq_true_eq] at hB2
 have hnb:=hok.nb
 have hro:=vldB_ok (by omega) (by omega) hB2.2
 have hbe:=hbe hok hro hB2.1 days.toNat (by omega) (by omega) bc bm br bn
 have hRO:begF x l relief days.toNat (l.length + 1) [] = rotO x l relief days:=rfl
 simp only [hRO] at hbe
 obtain ⟨RO,hROe⟩:∃ o,rotO x l relief days = o:=⟨_,rfl⟩
 rw [hROe] at hE
 simp only [hROe] at hbe
 rw [hROe]
 refine ⟨?_⟩
 simp (config := { maxSteps := 4000000 }) only [↓sxw,sxw,tf33,sxu,sxl,sxm,simprocAttr,dn]
 refine CallOb.mutH (A:=[mapO .i64 bm [],mapO .u64 bn []]) ((HImp.app _ _ _).trans (HImp.perm ((List.perm_middle (l₁:=[_,_,_])).trans (List.Perm.cons _ (List.perm_middle (l₁:=[_])))))) fps_mm (fun w' hp=>by rw [fpsx_mm]; exact hbe _ (by simp) (by simp) w' hp) ?_ (Post:=NdP x bm bn [] (BegP (.slice none 0 0) [] RO))
 rintro r N3 ⟨K3,M3,D3,rfl,hK3,hM3,hres⟩
 rcases hres with ⟨rfl,rfl⟩ | ⟨L,y,rfl,rfl,hy⟩
 ·rw [if_neg (by simp)] at hE
  rw [hE]
  refine ⟨?_⟩
  simp (config := { maxSteps := 4000000 }) only [↓sxw,sxw,tf33,sxu,sxl,sxm,simprocAttr,dn]
  first | exact .inl ⟨by decide,rfl⟩ | exact .inl trivial | exact .inl (by decide)
 ·rw [if_pos (show (some L).isSome = true from rfl)] at hE
  rw [hE]
  refine ⟨?_⟩
  simp (config := { maxSteps := 4000000 }) only [↓sxw,sxw,tf33,sxu,sxl,sxm,simprocAttr,dn]
  first | refine .inr ⟨rfl,L,y,rfl,rfl,hy.imp id fun h=>?_⟩ | refine .inr ⟨L,y,rfl,rfl,hy.imp id fun h=>?_⟩
  simp [h]
end Go.Proofs.YtljpknnhimkkjaaGreatDoor

