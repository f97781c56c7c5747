/- Parts of a proof: the symbolic walk and what it shows of single functions. -/
import Derived.Test.YtljpknnhimkkjaaGreatDoorK4
import Derived.Test.YtljpknnhimkkjaaGreatDoorK2
set_option linter.all false
namespace Go.Proofs.YtljpknnhimkkjaaGreatDoor
open Go.RowKit Go.SX
set_option maxRecDepth 10000
set_option maxHeartbeats 0
set_option linter.unusedSimpArgs false
set_option linter.unusedVariables false
def hisN (shifts:List Spn) (rows:List (List Int)) (k:Int):Nat → List Spn
 | 0=>[]
 | i + 1=>hisN shifts rows k i ++ if k ∈ rows.getD i [] then [shifts.getD i (0,0)] else []
theorem hisN_mem {shifts:List Spn} {rows:List (List Int)} {k:Int}:∀ {i},i ≤ shifts.length → ∀ x ∈ hisN shifts rows k i,x ∈ shifts
 | 0,_,x,h=>by cases h
 | i + 1,hi,x,h=>by
  rw [hisN,List.mem_append] at h
  rcases h with h | h
  ·exact hisN_mem (by omega) x h
  ·split at h
   ·rw [List.mem_singleton] at h
    subst h
    rw [List.getD_eq_getElem?_getD,List.getElem?_eq_getElem (show i < shifts.length by omega)]
    exact List.getElem_mem _
   ·cases h
theorem hisN_left {shifts:List Spn} {rows more:List (List Int)} {k:Int}:∀ {i},i ≤ rows.length → hisN shifts (rows ++ more) k i = hisN shifts rows k i
 | 0,_=>rfl
 | i + 1,hi=>by
  rw [hisN,hisN,hisN_left (by omega),List.getD_eq_getElem?_getD,List.getElem?_append_left (show i < rows.length by omega),← List.getD_eq_getElem?_getD]
end Go.Proofs.YtljpknnhimkkjaaGreatDoor

namespace Go.Proofs.YtljpknnhimkkjaaGreatDoor
open Go.RowKit Go.SX
set_option maxRecDepth 10000
set_option maxHeartbeats 0
set_option linter.unusedSimpArgs false
set_option linter.unusedVariables false
noncomputable def srvB (s:Stn) (h:Hnd) (l:List Spn):Bool:=@decide (servP s h l) (Classical.propDecidable _)
noncomputable def fitB (s:Stn) (seats:List Int) (shifts:List Spn) (rows:List (List Int)) (row:List Int) (h:Nat):Bool:=match s.hands[h]? with
 | some hd=>!decide ((h:Int) ∈ row) && hasB hd.skills (seats.getD row.length 0) && srvB s hd (hisN shifts (rows ++ [row ++ [(h:Int)]]) h (rows.length + 1))
 | none=>false
noncomputable def wat (s:Stn) (seats:List Int) (shifts:List Spn):Nat → List (List Int) → List Int → Option (List (List Int))
 | 0,_,_=>none
 | f + 1,rows,row=>if rows.length = shifts.length then some rows else if row.length = seats.length then wat s seats shifts f (rows ++ [row]) []
  else (List.range s.hands.length).findSome? fun h=>if fitB s seats shifts rows row h then wat s seats shifts f rows (row ++ [(h:Int)]) else none
def mea (seats:List Int) (shifts:List Spn) (rows:List (List Int)) (row:List Int):Nat:=(shifts.length - rows.length) * (seats.length + 1) + (seats.length - row.length)
theorem mea_push {seats:List Int} {shifts:List Spn} {rows:List (List Int)} {row:List Int} {x:Int} (h:row.length < seats.length):mea seats shifts rows (row ++ [x]) + 1 = mea seats shifts rows row:=by
 unfold mea
 rw [List.length_append,List.length_singleton]
 omega
theorem mea_next {seats:List Int} {shifts:List Spn} {rows:List (List Int)} {row:List Int} (h:row.length = seats.length) (hr:rows.length < shifts.length):mea seats shifts (rows ++ [row]) [] + 1 = mea seats shifts rows row:=by
 unfold mea
 rw [List.length_append,List.length_singleton,h]
 obtain ⟨d,hd⟩:∃ d,shifts.length = rows.length + 1 + d:=⟨shifts.length - (rows.length + 1),by omega⟩
 rw [hd,show rows.length + 1 + d - (rows.length + 1) = d by omega,show rows.length + 1 + d - rows.length = d + 1 by omega,Nat.succ_mul]
 try simp
 omega
def nilM:Lm:=([],none,0)
end Go.Proofs.YtljpknnhimkkjaaGreatDoor

namespace Go.Proofs.YtljpknnhimkkjaaGreatDoor
open Go.RowKit Go.SX
set_option maxRecDepth 10000
set_option maxHeartbeats 0
set_option linter.unusedSimpArgs false
set_option linter.unusedVariables false
def shB:Int → List Spn → Bool
 | _,[]=>true
 | last,x :: l=>inBK x.1 (last + 1) x.2 && decide (x.2 ≤ 400) && shB x.2 l
def chkW (s:Stn) (seats:List Int) (shifts:List Spn):Int:=if s.okB then (if shifts.length > 4 || !shB (-1) shifts then 1 else seatE seats) else 70
theorem shB_mem:∀ {l:List Spn} {last:Int},shB last l = true → ∀ x ∈ l,last < x.1 ∧ x.1 ≤ x.2 ∧ x.2 ≤ 400
 | [],_,_,x,hx=>by cases hx
 | y :: l,last,h,x,hx=>by
  rw [shB,Bool.and_eq_true,Bool.and_eq_true,inB_iffK,decide_eq_true_eq] at h
  rcases List.mem_cons.1 hx with rfl | hx
  ·omega
  ·have:=shB_mem h.2 x hx
   omega
def WatP (s:Stn) (seats:List Int) (shifts:List Spn) (r:Value) (N:List HO):Prop:=
 (chkW s seats shifts ≠ 0 ∧ r = .tuple #[.slice none 0 0,I (chkW s seats shifts)]) ∨
 (chkW s seats shifts = 0 ∧ ((wat s seats shifts (mea seats shifts [] [] + 1) [] [] = none ∧ r = .tuple #[.slice none 0 0,I 3]) ∨
  ∃ R x ps,wat s seats shifts (mea seats shifts [] [] + 1) [] [] = some R ∧ r = .tuple #[x,I 0] ∧ ps.map Prod.fst = R ∧ ((x = .slice none 0 0 ∧ ps = []) ∨ HO.row x 22 1 (cat lmc ps) ∈ N) ∧ ∀ p ∈ ps,p = nilM ∨ HO.row (lmv p) 3 1 (ints p.1) ∈ N))
theorem seatE_len {l:List Int} (h:seatE l = 0):l.length ≤ 5:=by
 unfold seatE at h
 split at h
 ·cases h
 ·omega
end Go.Proofs.YtljpknnhimkkjaaGreatDoor

namespace Go.Proofs.YtljpknnhimkkjaaGreatDoor
open Go.RowKit Go.SX
set_option maxRecDepth 10000
set_option maxHeartbeats 0
set_option linter.unusedSimpArgs false
set_option linter.unusedVariables false
def dutP (log l:List Spn):Int → Bool:=fun u=>srv log u || srv l u
theorem srv_app (l:List Spn) (x:Spn) (u:Int):srv (l ++ [x]) u = (srv l u || inS x u):=by
 unfold srv
 rw [List.any_append,List.any_cons,List.any_nil,Bool.or_false]
theorem dut_add1 (log l:List Spn) (x:Spn):(fun u=>dutP log l u || inS x u) = dutP log (l ++ [x]):=by
 funext u
 unfold dutP
 rw [srv_app,Bool.or_assoc]
theorem dut_add2 (l:List Spn) (x:Spn):(fun u=>srv l u || inS x u) = srv (l ++ [x]):=by
 funext u
 rw [srv_app]
theorem alw_serv {s:Stn} {h:Hnd} (hW:1 ≤ s.window ∧ s.window ≤ 100) (hlog:logdB h.log = true) {l:List Spn} (hn:newOk l):allAlw (dutP h.log l) (srv l) s.window.toNat s.duty ↔ servP s h l:=by
 rw [servP_iff hW hlog hn]
 exact allAlw_iff _ _ _ _ (by omega) fun u hu=>by
  obtain ⟨x,hx,hxu⟩:=srv_mem.1 hu
  have:=hn.2 x hx
  rw [inS_iff] at hxu
  omega
theorem disj_sub {l m:List Spn} (h:l.Sublist m):disj m → disj l:=by
 induction h with
 | slnil=>exact id
 | cons a _ ih=>exact fun hd=>ih hd.2.2
 | cons_cons a hs ih=>exact fun hd=>⟨hd.1,fun x hx=>hd.2.1 x (hs.subset hx),ih hd.2.2⟩
theorem disj_shB:∀ {l:List Spn} {last:Int},shB last l = true → disj l
 | [],_,_=>trivial
 | x :: l,last,h=>by
  rw [shB,Bool.and_eq_true,Bool.and_eq_true,inB_iffK,decide_eq_true_eq] at h
  refine ⟨by omega,fun y hy u h1 h2=>?_,disj_shB h.2⟩
  have:=shB_mem h.2 y hy
  rw [inS_iff] at h1 h2
  omega
theorem hisN_sub {shifts:List Spn} {rows:List (List Int)} {k:Int}:∀ {i},i ≤ shifts.length → (hisN shifts rows k i).Sublist (shifts.take i)
 | 0,_=>List.nil_sublist _
 | i + 1,hi=>by
  have hl:i < shifts.length:=by omega
  rw [hisN,List.take_succ,List.getElem?_eq_getElem hl]
  refine (hisN_sub (by omega)).append ?_
  split
  ·rw [List.getD_eq_getElem?_getD,List.getElem?_eq_getElem hl]
   exact List.Sublist.refl _
  ·exact List.nil_sublist _
theorem hisN_new {shifts:List Spn} {rows:List (List Int)} {k:Int} {i:Nat} (hi:i ≤ shifts.length) (h:shB (-1) shifts = true):newOk (hisN shifts rows k i):=
 ⟨disj_sub ((hisN_sub hi).trans (List.take_sublist _ _)) (disj_shB h),fun x hx=>by
  have:=shB_mem h x (hisN_mem hi x hx)
  omega⟩
theorem hisN_push {shifts:List Spn} {rows:List (List Int)} {row:List Int} {k:Int}:hisN shifts (rows ++ [row]) k (rows.length + 1) = hisN shifts rows k rows.length ++ if k ∈ row then [shifts.getD rows.length (0,0)] else []:=by
 rw [hisN,hisN_left (Nat.le_refl _),List.getD_eq_getElem?_getD,List.getElem?_append_right (Nat.le_refl _),Nat.sub_self]
 try rfl
end Go.Proofs.YtljpknnhimkkjaaGreatDoor

namespace Go.Proofs.YtljpknnhimkkjaaGreatDoor
open Go.RowKit Go.SX
set_option maxRecDepth 10000
set_option maxHeartbeats 0
set_option linter.unusedSimpArgs false
set_option linter.unusedVariables false
abbrev Wq:=List Int × Addr × Nat
def wqv (q:Wq):Value:=.slice (some q.2.1) q.1.length q.2.2
def rowO (q:Wq):HO:=.row (wqv q) 3 1 (cat i1 q.1)
def rowsF (Q:List Wq):List HO:=Q.map rowO
theorem rowsF_split {Q:List Wq} {k:Nat} {q:Wq} (h:Q[k]? = some q):rowsF Q = rowsF (Q.take k) ++ rowO q :: rowsF (Q.drop (k + 1)):=by
 obtain ⟨hk,rfl⟩:=List.getElem?_eq_some_iff.1 h
 unfold rowsF
 rw [← List.map_cons,← List.map_append,List.getElem_cons_drop,List.take_append_drop]
theorem rowsF_set {Q:List Wq} {k:Nat} {q u:Wq} (h:Q[k]? = some q):rowsF (Q.set k u) = rowsF (Q.take k) ++ rowO u :: rowsF (Q.drop (k + 1)):=by
 obtain ⟨hk,_⟩:=List.getElem?_eq_some_iff.1 h
 unfold rowsF
 rw [List.set_eq_take_append_cons_drop,if_pos hk,List.map_append,List.map_cons]
structure Cohr (seats:List Int) (shifts:List Spn) (rows:List (List Int)) (row:List Int) (Q:List Wq):Prop where
 len:Q.length = shifts.length
 wid:∀ q ∈ Q,q.1.length = seats.length
 old:∀ (k:Nat) q,k < rows.length → Q[k]? = some q → rows[k]? = some q.1
 cur:∀ q,Q[rows.length]? = some q → q.1.take row.length = row
theorem Cohr.put {seats:List Int} {shifts:List Spn} {rows:List (List Int)} {row:List Int} {Q:List Wq} (h:Cohr seats shifts rows row Q) {q:Wq} (hq:Q[rows.length]? = some q) {x:Int} (hr:row.length < seats.length):Cohr seats shifts rows (row ++ [x]) (Q.set rows.length (q.1.set row.length x,q.2)):=by
 have hl:=(List.getElem?_eq_some_iff.1 hq).1
 have hw:=h.wid q (List.mem_of_getElem? hq)
 refine ⟨by rw [List.length_set]; exact h.len,fun p hp=>?_,fun k p hk hp=>?_,fun p hp=>?_⟩
 ·rcases List.mem_or_eq_of_mem_set hp with hp | rfl
  ·exact h.wid p hp
  ·simp only [List.length_set]; exact hw
 ·rw [List.getElem?_set_ne (by omega)] at hp
  exact h.old k p hk hp
 ·rw [List.getElem?_set_self hl] at hp
  cases hp
  have hc:=h.cur q hq
  simp only []
  rw [List.length_append,List.length_singleton]
  apply List.ext_getElem?
  intro i
  by_cases hi:i < row.length
  ·have e:row[i]? = q.1[i]?:=by
    have:=List.getElem?_take_of_lt (l:=q.1) hi
    rw [hc] at this
    exact this
   rw [List.getElem?_take_of_lt (by omega),List.getElem?_set_ne (by omega),List.getElem?_append_left hi,e]
  ·by_cases he:i = row.length
   ·subst he
    rw [List.getElem?_take_of_lt (by omega),List.getElem?_set_self (by omega),List.getElem?_append_right (Nat.le_refl _),Nat.sub_self]
    try rfl
   ·rw [List.getElem?_eq_none (by rw [List.length_take]; omega),List.getElem?_eq_none (by rw [List.length_append,List.length_singleton]; omega)]
theorem Cohr.back {seats:List Int} {shifts:List Spn} {rows:List (List Int)} {row:List Int} {x:Int} {Q:List Wq} (h:Cohr seats shifts rows (row ++ [x]) Q):Cohr seats shifts rows row Q:=
 ⟨h.len,h.wid,h.old,fun q hq=>by
  have:=congrArg (List.take row.length) (h.cur q hq)
  rw [List.take_take,List.take_left] at this
  rwa [List.length_append,List.length_singleton,Nat.min_eq_left (by omega)] at this⟩
theorem Cohr.next {seats:List Int} {shifts:List Spn} {rows:List (List Int)} {row:List Int} {Q:List Wq} (h:Cohr seats shifts rows row Q) (hr:row.length = seats.length) (hl:rows.length < shifts.length):Cohr seats shifts (rows ++ [row]) [] Q:=by
 refine ⟨h.len,h.wid,fun k q hk hq=>?_,fun q _=>rfl⟩
 rw [List.length_append,List.length_singleton] at hk
 by_cases hk2:k < rows.length
 ·rw [List.getElem?_append_left hk2]
  exact h.old k q hk2 hq
 ·obtain rfl:k = rows.length:=by omega
  rw [List.getElem?_append_right (Nat.le_refl _),Nat.sub_self]
  have h1:=h.cur q hq
  have h2:=h.wid q (List.mem_of_getElem? hq)
  rw [List.take_of_length_le (by omega)] at h1
  rw [h1]
  try rfl
theorem Cohr.prev {seats:List Int} {shifts:List Spn} {rows:List (List Int)} {row:List Int} {Q:List Wq} (h:Cohr seats shifts (rows ++ [row]) [] Q):Cohr seats shifts rows row Q:=by
 refine ⟨h.len,h.wid,fun k q hk hq=>?_,fun q hq=>?_⟩
 ·have:=h.old k q (by rw [List.length_append]; omega) hq
  rwa [List.getElem?_append_left hk] at this
 ·have:=h.old rows.length q (by rw [List.length_append,List.length_singleton]; omega) hq
  rw [List.getElem?_append_right (Nat.le_refl _),Nat.sub_self] at this
  have e:row = q.1:=by simpa using this
  rw [← e,List.take_length]
theorem Cohr.done {seats:List Int} {shifts:List Spn} {rows:List (List Int)} {row:List Int} {Q:List Wq} (h:Cohr seats shifts rows row Q) (hl:rows.length = shifts.length):Q.map Prod.fst = rows:=by
 apply List.ext_getElem?
 intro k
 rw [List.getElem?_map]
 by_cases hk:k < rows.length
 ·have hq:=List.getElem?_eq_getElem (show k < Q.length by rw [h.len]; omega)
  rw [hq,h.old k _ hk hq]
  try rfl
 ·rw [List.getElem?_eq_none (by rw [h.len]; omega),List.getElem?_eq_none (by omega)]
  try rfl
end Go.Proofs.YtljpknnhimkkjaaGreatDoor

namespace Go.Proofs.YtljpknnhimkkjaaGreatDoor
open Go.RowKit Go.SX
set_option maxRecDepth 10000
set_option maxHeartbeats 0
set_option linter.unusedSimpArgs false
set_option linter.unusedVariables false
def SlX (w:World) (X:Nat → Prop) (v:Value) (sz:Nat) (xs:List Value):Prop:=Sl w v sz xs ∧ (0 < xs.length → ∀ b,v.ownBlock = some b → ¬ X b)
theorem SlX.keep {w w':World} {X:Nat → Prop} {v:Value} {sz:Nat} {xs:List Value} (h:SlX w X v sz xs) (hk:Keep X w w'):SlX w' X v sz xs:=by
 refine ⟨?_,h.2⟩
 by_cases h0:0 < xs.length
 ·exact Sl.keep h.1 hk (h.2 h0)
 ·have:xs = []:=List.eq_nil_of_length_eq_zero (by omega)
  subst this
  obtain ⟨a,l,c,e,hl,_⟩:=h.1
  exact ⟨a,l,c,e,hl,fun i x hx=>by simp at hx⟩
theorem SlX.rdv {w:World} {X:Nat → Prop} {v:Value} {sz:Nat} {xs:List Value} (h:SlX w X v sz xs) (H:List HO):Rdv ⟨w,X⟩ H v sz xs:=by
 by_cases h0:0 < xs.length
 ·exact Sl.rdv h.1 (h.2 h0) H
 ·have:xs = []:=List.eq_nil_of_length_eq_zero (by omega)
  subst this
  obtain ⟨a,l,c,e,hl,_⟩:=h.1
  exact ⟨a,l,c,e,hl,fun i x hx=>by simp at hx⟩
def rvc (S:Nat) (a:Addr × Nat):List Value:=[.slice (some a.1) S a.2]
theorem rvc_len (S:Nat) (a:Addr × Nat):(rvc S a).length = 1:=rfl
def dutO (vd:Value) (bs:List Nat):HO:=.row vd 221 1 (cat pc bs)
theorem fps_FA {vd:Value} {bs:List Nat} {Q:List Wq} (b:Nat):fps (dutO vd bs :: rowsF Q) b → fpsx (dutO vd bs :: rowsF Q) b:=by
 rintro ⟨h,hh,hb⟩
 refine ⟨h,hh,?_⟩
 rcases List.mem_cons.1 hh with rfl | hh
 ·exact hb
 ·obtain ⟨q,_,rfl⟩:=List.mem_map.1 hh
  exact hb
theorem fpsx_FA {vd:Value} {bs:List Nat} {Q:List Wq} {b:Nat}:fpsx (dutO vd bs :: rowsF Q) b ↔ vd.ownBlock = some b ∨ ∃ a ∈ Q.map Prod.snd,a.1.block = b:=by
 constructor
 ·rintro ⟨h,hh,hb⟩
  rcases List.mem_cons.1 hh with rfl | hh
  ·exact .inl hb
  ·obtain ⟨q,hq,rfl⟩:=List.mem_map.1 hh
   refine .inr ⟨q.2,List.mem_map_of_mem hq,?_⟩
   simpa [rowO,wqv,HO.fpx,Value.ownBlock] using hb
 ·rintro (hb | ⟨a,ha,rfl⟩)
  ·exact ⟨_,List.mem_cons_self,hb⟩
  ·obtain ⟨q,hq,rfl⟩:=List.mem_map.1 ha
   exact ⟨rowO q,List.mem_cons_of_mem _ (List.mem_map_of_mem hq),by simp [rowO,wqv,HO.fpx,Value.ownBlock]⟩
theorem fpsx_eq {vd:Value} {bs bs':List Nat} {Q Q':List Wq} (h:Q'.map Prod.snd = Q.map Prod.snd):fpsx (dutO vd bs' :: rowsF Q') = fpsx (dutO vd bs :: rowsF Q):=by
 funext b
 rw [propext fpsx_FA,propext fpsx_FA,h]
theorem wr_rowsA {Q:List Wq} {A H:List HO} {d:HO} {k j:Nat} {q:Wq} {x:Int} {K:List HO → Prop} (hH:H = A ++ d :: rowsF Q) (h:Q[k]? = some q) (hj:j < q.1.length) (hK:K (A ++ d :: rowsF (Q.set k (q.1.set j x,q.2)))):hold (WrOb H (q.2.1.add (j * 1)) [I x] K) ⟨0⟩:=by
 have hs:=rowsF_split h
 refine wr_at (A:=A ++ d :: rowsF (Q.take k)) (B:=rowsF (Q.drop (k + 1))) (e:=3) (cap:=q.2.2) (len:=q.1.length) (f:=i1) (l:=q.1) (u:=x) ?_ i1_len rfl hj ?_
 ·rw [hH,hs,List.append_assoc]
  try rfl
 ·rw [rowsF_set h] at hK
  have e:rowO (q.1.set j x,q.2) = HO.row (.slice (some q.2.1) q.1.length q.2.2) 3 1 (cat i1 (q.1.set j x)):=by
   unfold rowO wqv
   simp only [List.length_set]
  rw [e] at hK
  rw [List.append_assoc]
  exact hK
theorem wr_dut {A H T:List HO} {da:Addr} {n dc i b:Nat} {bs:List Nat} {K:List HO → Prop} (hH:H = A ++ dutO (.slice (some da) n dc) bs :: T) (hl:bs.length = n) (hi:i < n) (hK:K (A ++ dutO (.slice (some da) n dc) (bs.set i b) :: T)):hold (WrOb H (da.add (i * 1)) [.pointer (some ⟨b,0,none⟩)] K) ⟨0⟩:=
 wr_at (A:=A) (B:=T) (e:=221) (cap:=dc) (len:=n) (f:=pc) (l:=bs) (u:=b) hH pc_len hl (by omega) hK
theorem set_getE_self {α:Type} {l:List α} {k:Nat} {a:α} (h:l[k]? = some a):l.set k a = l:=by
 obtain ⟨hk,rfl⟩:=List.getElem?_eq_some_iff.1 h
 exact List.set_getElem_self hk
theorem Fn.sub {P:Program} {f:Nat} {args:List Value} {w:World} {X:Nat → Prop} {Post:Value → List HO → Prop} (h:SX.Fn P f args w X fun r N=>∃ N',N'.Sublist N ∧ Post r N'):SX.Fn P f args w X Post:=
 Calls.mono h fun _e _w' ⟨v,N,a,b,c,d,e',N',hs,p⟩=>⟨v,N',a,b,fun g hg=>c g (hs.subset hg),fun g hg=>d g (hs.subset hg),e'.sublist hs,p⟩
structure FilW (w:World) (X:Nat → Prop) (bw br:Nat) (s:Stn) (seats:List Int) (shifts:List Spn) (hv vt vs vr vd:Value) (Ad:List (Addr × Nat)) (psh:List Hm):Prop where
 nw:¬ X bw
 nr:¬ X br
 box:∀ (i:Nat) x,[Value.pointer (some ⟨br,0,none⟩),vt,vs,vr,vd][i]? = some x → w.cell? ⟨bw,i,none⟩ = some x
 ros:∀ (i:Nat) x,[hv,I s.window,I s.duty][i]? = some x → w.cell? ⟨br,i,none⟩ = some x
 fst:psh.map Prod.fst = s.hands
 han:SlX w X hv 5 (cat hdc psh)
 sea:SlX w X vt 1 (ints seats)
 shi:SlX w X vs 2 (cat spcK shifts)
 row:SlX w X vr 1 (cat (rvc seats.length) Ad)
 cap:∀ a ∈ Ad,seats.length ≤ a.2
 num:Ad.length = shifts.length
theorem FilW.keep {w w':World} {X:Nat → Prop} {bw br:Nat} {s:Stn} {seats:List Int} {shifts:List Spn} {hv vt vs vr vd:Value} {Ad:List (Addr × Nat)} {psh:List Hm} (h:FilW w X bw br s seats shifts hv vt vs vr vd Ad psh) (hk:Keep X w w'):FilW w' X bw br s seats shifts hv vt vs vr vd Ad psh:=
 ⟨h.nw,h.nr,fun i x hx=>by
  have:=h.box i x hx
  rw [World.cell?_of_block (w:=w) (hk.block bw (World.block_lt_of_cell? w ⟨bw,i,none⟩ this) h.nw)]
  exact this,fun i x hx=>by
  have:=h.ros i x hx
  rw [World.cell?_of_block (w:=w) (hk.block br (World.block_lt_of_cell? w ⟨br,i,none⟩ this) h.nr)]
  exact this,h.fst,h.han.keep hk,h.sea.keep hk,h.shi.keep hk,h.row.keep hk,h.cap,h.num⟩
def hisR (shifts:List Spn) (rows:List (List Int)) (row:List Int) (k:Nat):List Spn:=hisN shifts (rows ++ [row]) k (rows.length + 1)
theorem hisR_next {shifts:List Spn} {rows:List (List Int)} {row:List Int} {k:Nat}:hisR shifts (rows ++ [row]) [] k = hisR shifts rows row k:=by
 unfold hisR
 rw [hisN_push,if_neg (by simp),List.append_nil,List.length_append,List.length_singleton]
theorem hisR_other {shifts:List Spn} {rows:List (List Int)} {row:List Int} {k i:Nat} (h:k ≠ i):hisR shifts rows (row ++ [(i:Int)]) k = hisR shifts rows row k:=by
 unfold hisR
 rw [hisN_push,hisN_push]
 have:((k:Int) ∈ row ++ [(i:Int)]) = ((k:Int) ∈ row):=by
  rw [List.mem_append,List.mem_singleton]
  exact propext ⟨fun g=>g.resolve_right (by omega),.inl⟩
 simp only [this]
theorem hisR_put {shifts:List Spn} {rows:List (List Int)} {row:List Int} {i:Nat} (h:(i:Int) ∉ row):hisR shifts rows (row ++ [(i:Int)]) i = hisR shifts rows row i ++ [shifts.getD rows.length (0,0)]:=by
 unfold hisR
 rw [hisN_push,hisN_push,if_pos (by simp),if_neg h,List.append_nil]
structure DutW (w:World) (X:Nat → Prop) (s:Stn) (shifts:List Spn) (rows:List (List Int)) (row:List Int) (bs:List Nat):Prop where
 len:bs.length = s.hands.length
 ok:∀ (k b:Nat) (h:Hnd),bs[k]? = some b → s.hands[k]? = some h → ¬ X b ∧ DutyOk w b (dutP h.log (hisR shifts rows row k)) (srv (hisR shifts rows row k))
theorem DutW.keep {w w':World} {X:Nat → Prop} {s:Stn} {shifts:List Spn} {rows:List (List Int)} {row:List Int} {bs:List Nat} (h:DutW w X s shifts rows row bs) (hk:Keep X w w'):DutW w' X s shifts rows row bs:=
 ⟨h.len,fun k b g hb hg=>by
  obtain ⟨h1,h2⟩:=h.ok k b g hb hg
  refine ⟨h1,fun j v hj=>?_⟩
  rw [World.cell?_of_block (w:=w) (hk.block b h2.lt h1)]
  exact h2 j v hj⟩
theorem DutW.next {w:World} {X:Nat → Prop} {s:Stn} {shifts:List Spn} {rows:List (List Int)} {row:List Int} {bs:List Nat} (h:DutW w X s shifts rows row bs):DutW w X s shifts (rows ++ [row]) [] bs:=
 ⟨h.len,fun k b g hb hg=>by rw [hisR_next]; exact h.ok k b g hb hg⟩
theorem DutW.put {w:World} {X:Nat → Prop} {s:Stn} {shifts:List Spn} {rows:List (List Int)} {row:List Int} {bs:List Nat} (h:DutW w X s shifts rows row bs) {i b:Nat} {g:Hnd} (hg:s.hands[i]? = some g) (hX:¬ X b) (hd:DutyOk w b (dutP g.log (hisR shifts rows (row ++ [(i:Int)]) i)) (srv (hisR shifts rows (row ++ [(i:Int)]) i))):DutW w X s shifts rows (row ++ [(i:Int)]) (bs.set i b):=by
 have hi:=(List.getElem?_eq_some_iff.1 hg).1
 refine ⟨by rw [List.length_set]; exact h.len,fun k b' g' hb' hg'=>?_⟩
 by_cases e:k = i
 ·subst e
  rw [List.getElem?_set_self (by rw [h.len]; exact hi)] at hb'
  cases hb'
  rw [hg] at hg'
  cases hg'
  exact ⟨hX,hd⟩
 ·rw [List.getElem?_set_ne (by omega)] at hb'
  rw [hisR_other e]
  exact h.ok k b' g' hb' hg'
theorem not_fpsx {w0:Base} {A B:List HO} {w:World} (hp:Hp w0 (A ++ B) w) {g:HO} (hg:g ∈ B) {b:Nat} (hb:g.fp b):¬ fpsx A b:=fun ⟨y,hy,hyb⟩=>((List.pairwise_append.1 hp.nd).2.2 y hy g hg b (HO.fp_of_fpx hyb) hb).1 hyb
def FilP (seats:List Int) (shifts:List Spn) (vd:Value) (Ad:List (Addr × Nat)) (rows:List (List Int)) (row:List Int) (bs:List Nat) (res:Option (List (List Int))) (r:Value) (N:List HO):Prop:=
 ∃ Q' bs',r = .bool res.isSome ∧ N = dutO vd bs' :: rowsF Q' ∧ Q'.map Prod.snd = Ad ∧ (res = none → bs' = bs ∧ Cohr seats shifts rows row Q') ∧ ∀ R,res = some R → Q'.map Prod.fst = R
end Go.Proofs.YtljpknnhimkkjaaGreatDoor

namespace Go.Proofs.YtljpknnhimkkjaaGreatDoor
open Go.RowKit Go.SX
set_option maxRecDepth 10000
set_option maxHeartbeats 0
set_option linter.unusedSimpArgs false
set_option linter.unusedVariables false
def pl180_8:Plan:=(ones [0,1,2,3,4,5,6,7,8,9,10,11,12,13,14,15,16,17] .fin)
def pl180_15:Plan:=(ones [0,1,2,3,4,5,6,7,8,9,10,11,12,13,14,15,16,17] .fin)
def pl180_17:Plan:=(ones [0,1,2,3,4,5,6,7,8,9,10,11,12,13,14,15,16,17,18,19,20,21,22,23,24,25,26,27,28] (.mu 29 (ones [30] .fin)))
def pl180:List (Nat × Plan):=[(8,pl180_8),(15,pl180_15),(17,pl180_17)]
theorem pl180_lk:(lkO 8 pl180 = some pl180_8) ∧ (lkO 15 pl180 = some pl180_15) ∧ (lkO 17 pl180 = some pl180_17):=⟨rfl,rfl,rfl⟩
theorem fill_fn (s:Stn) (hok:s.okB = true) (seats:List Int) (hs5:seats.length ≤ 1000) (shifts:List Spn) (hsp:shB (-1) shifts = true) (hs1:shifts.length ≤ 1000) (bw br:Nat) (hv vt vs vr:Value) (dad:Option Addr) (dc:Nat) (Ad:List (Addr × Nat)) (psh:List Hm):
  ∀ (f:Nat) (w:World) (Q:List Wq) (bs:List Nat) (rows:List (List Int)) (row:List Int) (hF:FilW w (fpsx (dutO (.slice dad s.hands.length dc) bs :: rowsF Q)) bw br s seats shifts hv vt vs vr (.slice dad s.hands.length dc) Ad psh) (hQ:Q.map Prod.snd = Ad) (hko:∀ h ∈ dutO (.slice dad s.hands.length dc) bs :: rowsF Q,h.ok w) (hka:(dutO (.slice dad s.hands.length dc) bs :: rowsF Q).Pairwise Apart)
   (hC:Cohr seats shifts rows row Q) (hD:DutW w (fpsx (dutO (.slice dad s.hands.length dc) bs :: rowsF Q)) s shifts rows row bs) (hr1:row.length ≤ seats.length) (hr2:rows.length ≤ shifts.length) (hr3:rows.length = shifts.length → row = []) (hf:mea seats shifts rows row < f),
  SX.Fn Tryz.prog 180 [.pointer (some ⟨bw,0,none⟩),I rows.length,I row.length] w (fpsx (dutO (.slice dad s.hands.length dc) bs :: rowsF Q)) (FilP seats shifts (.slice dad s.hands.length dc) Ad rows row bs (wat s seats shifts f rows row)):=by
 intro f
 induction f using Nat.strongRecOn with
 | ind f ih=>
 intro w Q bs rows row hF hQ hko hka hC hD hr1 hr2 hr3 hf
 refine Fn.sub ?_
 obtain ⟨f,rfl⟩:∃ g,f = g + 1:=⟨f - 1,by omega⟩
 have dn:∀ (g:Nat) (xs:List Value),det0K g xs = none:=fun _ _=>rfl
 have hob:=okB_of hok
 obtain ⟨X,hX⟩:∃ X,fpsx (dutO (.slice dad s.hands.length dc) bs :: rowsF Q) = X:=⟨_,rfl⟩
 have hXA:∀ (Q':List Wq) bs',Q'.map Prod.snd = Ad → fpsx (dutO (.slice dad s.hands.length dc) bs' :: rowsF Q') = X:=fun Q' bs' h=>by
  rw [← hX]
  exact fpsx_eq (h.trans hQ.symm)
 have hXb:∀ g ∈ dutO (.slice dad s.hands.length dc) bs :: rowsF Q,∀ b,g.fp b → X b:=fun g hg b hb=>by
  rw [← hX]
  exact fps_FA b ⟨g,hg,hb⟩
 rw [hX] at hF hD ⊢
 obtain ⟨aT,nT,cT,rfl⟩:=hF.sea.1.shape
 have hnT:=hF.sea.1.le i1_len (by omega)
 subst hnT
 obtain ⟨aS,nS,cS,rfl⟩:=hF.shi.1.shape
 have hnS:=hF.shi.1.le spc_lenK (by omega)
 subst hnS
 obtain ⟨aH,nH,cH,rfl⟩:=hF.han.1.shape
 have hlh:psh.length = s.hands.length:=by rw [← hF.fst,List.length_map]
 have hnH:=hF.han.1.le hdc_len (by omega)
 subst hnH
 obtain ⟨aR,nR,cR,rfl⟩:=hF.row.1.shape
 have hnR:=hF.row.1.le (rvc_len _) (by omega)
 subst hnR
 have hrH:=hF.han.rdv
 have hrT:=hF.sea.rdv
 have hrS:=hF.shi.rdv
 have hrR:=hF.row.rdv
 have c0:=hF.box 0 _ rfl
 have c1:=hF.box 1 _ rfl
 have c2:=hF.box 2 _ rfl
 have c3:=hF.box 3 _ rfl
 have c4:=hF.box 4 _ rfl
 have d0:=hF.ros 0 _ rfl
 have d1:=hF.ros 1 _ rfl
 have d2:=hF.ros 2 _ rfl
 have nw:=hF.nw
 have nr:=hF.nr
 by_cases h1:rows.length = shifts.length
 ·have e1:((rows.length:Int) = (shifts.length:Int)) = True:=eq_true (by omega)
  have hw:wat s seats shifts (f + 1) rows row = some rows:=by rw [wat,if_pos h1]
  rw [hw]
  refine walk [] pl180 (det0K_ok _ _) Tryz.func180 rfl Tryz.ntmps180 res180 (by kernel_rfl) (H0:=dutO (.slice dad s.hands.length dc) bs :: rowsF Q) ⟨hko,hXb,hka⟩ ?_
  simp (config := { maxSteps := 4000000 }) only [↓sxw,sxw,tf180,sxu,sxl,sxm,simprocAttr,dn,↓Wsc,Wsc]
  refine ld_olda (by simp [add_block]) c2 nw ?_
  simp (config := { maxSteps := 4000000 }) only [↓sxw,sxw,tf180,sxu,sxl,sxm,simprocAttr,e1,dn,↓Wsc,Wsc]
  exact ⟨_,List.Sublist.refl _,Q,bs,rfl,rfl,hQ,fun h=>(by cases h),fun R hR=>by cases hR; exact hC.done h1⟩
 have e1:((rows.length:Int) = (shifts.length:Int)) = False:=eq_false (by omega)
 by_cases h2:row.length = seats.length
 ·have e2:((row.length:Int) = (seats.length:Int)) = True:=eq_true (by omega)
  have e3:wrK ((rows.length:Int) + 1) = ((rows.length + 1:Nat):Int):=(wrap_id (by omega)).trans (by omega)
  have hw:wat s seats shifts (f + 1) rows row = wat s seats shifts f (rows ++ [row]) []:=by rw [wat,if_neg h1,if_pos h2]
  have hmn:=mea_next (seats:=seats) (shifts:=shifts) (rows:=rows) h2 (by omega)
  rw [hw]
  refine walk [] pl180 (det0K_ok _ _) Tryz.func180 rfl Tryz.ntmps180 res180 (by kernel_rfl) (H0:=dutO (.slice dad s.hands.length dc) bs :: rowsF Q) ⟨hko,hXb,hka⟩ ?_
  simp (config := { maxSteps := 4000000 }) only [↓sxw,sxw,tf180,sxu,sxl,sxm,simprocAttr,dn,↓Wsc,Wsc]
  refine ld_olda (by simp [add_block]) c2 nw ?_
  simp (config := { maxSteps := 4000000 }) only [↓sxw,sxw,tf180,sxu,sxl,sxm,simprocAttr,e1,dn,↓Wsc,Wsc]
  refine ld_olda (by simp [add_block]) c1 nw ?_
  simp (config := { maxSteps := 4000000 }) only [↓sxw,sxw,tf180,sxu,sxl,sxm,simprocAttr,e2,e3,dn,↓Wsc,Wsc]
  refine CallOb.mutH (A:=dutO (.slice dad s.hands.length dc) bs :: rowsF Q) (B:=[]) (by rw [List.append_nil]; exact HImp.refl _ _) fps_FA (fun w' hp=>?_) (Post:=FilP seats shifts (.slice dad s.hands.length dc) Ad (rows ++ [row]) [] bs (wat s seats shifts f (rows ++ [row]) [])) ?_
  ·have hk:=hp.ext
   have:=ih f (by omega) w' Q bs (rows ++ [row]) [] (by rw [hX]; exact hF.keep hk) hQ (fun h hh=>hp.ok h (List.mem_append_left _ hh)) hka (hC.next h2 (by omega)) (by rw [hX]; exact (hD.keep hk).next) (Nat.zero_le _) (by rw [List.length_append,List.length_singleton]; omega) (fun _=>rfl) (by omega)
   rw [List.length_append,List.length_singleton] at this
   exact this
  rintro r N ⟨Q',bs',rfl,rfl,hq,hn,hy⟩
  refine ⟨?_⟩
  simp (config := { maxSteps := 4000000 }) only [↓sxw,sxw,tf180,sxu,sxl,sxm,simprocAttr,dn,↓Wsc,Wsc]
  exact ⟨_,by first | exact List.Sublist.refl _ | exact List.sublist_append_left _ _,Q',bs',rfl,rfl,hq,fun h=>⟨(hn h).1,(hn h).2.prev⟩,hy⟩
 have e2:((row.length:Int) = (seats.length:Int)) = False:=eq_false (by omega)
 have e9:((row.length:Int) < (seats.length:Int)) = True:=eq_true (by omega)
 have hwt:wat s seats shifts (f + 1) rows row = (List.range s.hands.length).findSome? fun h=>if fitB s seats shifts rows row h then wat s seats shifts f rows (row ++ [(h:Int)]) else none:=by rw [wat,if_neg h1,if_neg h2]
 generalize hG:(fun h:Nat=>if fitB s seats shifts rows row h then wat s seats shifts f rows (row ++ [(h:Int)]) else none) = G at hwt
 have hGe:∀ i:Nat,G i = if fitB s seats shifts rows row i then wat s seats shifts f rows (row ++ [(i:Int)]) else none:=fun i=>by rw [← hG]
 have hda:0 < s.hands.length → ∃ da,dad = some da:=fun h=>by
  have h3:Sl w (.slice dad s.hands.length dc) 1 (cat pc bs):=RowOk.sl (hko _ List.mem_cons_self)
  exact h3.addr (by rw [cat_len pc_len,hD.len]; omega)
 by_cases h0:psh.length = 0
 ·have e7:(((0:Nat):Int) < (psh.length:Int)) = False:=eq_false (by omega)
  have hw:wat s seats shifts (f + 1) rows row = none:=by
   rw [hwt,show s.hands.length = 0 by omega]
   try rfl
  have e0:(psh.length:Int) = 0:=by omega
  rw [hw]
  refine walk [] pl180 (det0K_ok _ _) Tryz.func180 rfl Tryz.ntmps180 res180 (by kernel_rfl) (H0:=dutO (.slice dad s.hands.length dc) bs :: rowsF Q) ⟨hko,hXb,hka⟩ ?_
  simp (config := { maxSteps := 4000000 }) only [↓sxw,sxw,tf180,sxu,sxl,sxm,simprocAttr,dn,↓Wsc,Wsc]
  refine ld_olda (by simp [add_block]) c2 nw ?_
  simp (config := { maxSteps := 4000000 }) only [↓sxw,sxw,tf180,sxu,sxl,sxm,simprocAttr,e1,dn,↓Wsc,Wsc]
  refine ld_olda (by simp [add_block]) c1 nw ?_
  simp (config := { maxSteps := 4000000 }) only [↓sxw,sxw,tf180,sxu,sxl,sxm,simprocAttr,e2,dn,↓Wsc,Wsc]
  refine ld_olda (by simp [add_block]) c0 nw ?_
  simp (config := { maxSteps := 4000000 }) only [↓sxw,sxw,tf180,sxu,sxl,sxm,simprocAttr,dn,↓Wsc,Wsc]
  refine ld_olda (by simp [add_block]) d0 nr ?_
  simp (config := { maxSteps := 4000000 }) only [↓sxw,sxw,tf180,sxu,sxl,sxm,simprocAttr,e0,dn,↓Wsc,Wsc]
  refine loop_constH (dutO (.slice dad s.hands.length dc) bs :: rowsF Q) (HImp.refl _ _) [(6,8),(10,11),(41,154)] (fun q:Unit=>[(41,I 0)]) (fun q H1=>H1 = dutO (.slice dad s.hands.length dc) bs :: rowsF Q) (fun q=>0) () ?_ rfl ?_
  ·simp (config := { maxSteps := 4000000 }) only [↓sxw,sxw,tf180,sxu,sxl,sxm,simprocAttr]
   try simp
  rintro ⟨⟩ H1 gg1 rfl
  have z0:((0:Int) < 0) = False:=eq_false (by omega)
  refine ⟨?_⟩
  simp (config := { maxSteps := 4000000 }) only [↓sxw,sxw,tf180,sxu,sxl,sxm,simprocAttr,z0,dn]
  exact ⟨_,List.Sublist.refl _,Q,bs,rfl,rfl,hQ,fun _=>⟨rfl,hC⟩,fun R hR=>by cases hR⟩
 obtain ⟨da,rfl⟩:=hda (by omega)
 have hus:seats[row.length]? = some (seats.getD row.length 0):=getD_atK (by omega) 0
 obtain ⟨st,hst⟩:∃ st,seats.getD row.length 0 = st:=⟨_,rfl⟩
 rw [hst] at hus
 obtain ⟨a1,ha1⟩:∃ a,Ad[rows.length]? = some a:=⟨_,List.getElem?_eq_getElem (by rw [hF.num]; omega)⟩
 have hcap:=hF.cap a1 (List.mem_of_getElem? ha1)
 have hsi:shifts[rows.length]? = some (shifts.getD rows.length (0,0)):=getD_atK (by omega) (0,0)
 obtain ⟨x,hx⟩:∃ x,shifts.getD rows.length (0,0) = x:=⟨_,rfl⟩
 rw [hx] at hsi
 refine walk [] pl180 (det0K_ok _ _) Tryz.func180 rfl Tryz.ntmps180 res180 (by kernel_rfl) (H0:=dutO (.slice (some da) s.hands.length dc) bs :: rowsF Q) ⟨hko,hXb,hka⟩ ?_
 simp (config := { maxSteps := 4000000 }) only [↓sxw,sxw,tf180,sxu,sxl,sxm,simprocAttr,dn,↓Wsc,Wsc]
 refine ld_olda (by simp [add_block]) c2 nw ?_
 simp (config := { maxSteps := 4000000 }) only [↓sxw,sxw,tf180,sxu,sxl,sxm,simprocAttr,e1,dn,↓Wsc,Wsc]
 refine ld_olda (by simp [add_block]) c1 nw ?_
 simp (config := { maxSteps := 4000000 }) only [↓sxw,sxw,tf180,sxu,sxl,sxm,simprocAttr,e2,dn,↓Wsc,Wsc]
 refine ld_olda (by simp [add_block]) c0 nw ?_
 simp (config := { maxSteps := 4000000 }) only [↓sxw,sxw,tf180,sxu,sxl,sxm,simprocAttr,dn,↓Wsc,Wsc]
 refine ld_olda (by simp [add_block]) d0 nr ?_
 simp (config := { maxSteps := 4000000 }) only [↓sxw,sxw,tf180,sxu,sxl,sxm,simprocAttr,dn,↓Wsc,Wsc]
 refine loop_constH (dutO (.slice (some da) s.hands.length dc) bs :: rowsF Q) (HImp.refl _ _) [(6,8),(10,11),(41,154)] (fun q:Nat × List Wq=>[(41,I q.1)]) (fun q H1=>q.1 ≤ psh.length ∧ H1 = dutO (.slice (some da) s.hands.length dc) bs :: rowsF q.2 ∧ q.2.map Prod.snd = Ad ∧ Cohr seats shifts rows row q.2 ∧ wat s seats shifts (f + 1) rows row = ((List.range s.hands.length).drop q.1).findSome? G) (fun q=>psh.length - q.1) (0,Q) ?_ ⟨Nat.zero_le _,rfl,hQ,hC,hwt⟩ ?_
 ·simp (config := { maxSteps := 4000000 }) only [↓sxw,sxw,tf180,sxu,sxl,sxm,simprocAttr]
  try simp
 rintro ⟨i,Q1⟩ H1 gg1 hinv0
 simp only [] at hinv0
 obtain ⟨hi,rfl,hQ1,hC1,hinv⟩:=hinv0
 by_cases hin:i = psh.length
 ·have e7:((i:Int) < (psh.length:Int)) = False:=eq_false (by omega)
  rw [List.drop_of_length_le (by rw [List.length_range]; omega)] at hinv
  rw [hinv]
  refine ⟨?_⟩
  simp (config := { maxSteps := 4000000 }) only [↓sxw,sxw,tf180,sxu,sxl,sxm,simprocAttr,e7]
  exact ⟨_,List.Sublist.refl _,Q1,bs,rfl,rfl,hQ1,fun _=>⟨rfl,hC1⟩,fun R hR=>by cases hR⟩
 have e7:((i:Int) < (psh.length:Int)) = True:=eq_true (by omega)
 have e8:wrK (i + 1) = ((i + 1:Nat):Int):=(wrap_id (by omega)).trans (by omega)
 have hil:i < psh.length:=by omega
 have hu:=List.getElem?_eq_getElem hil
 have hhk:s.hands[i]? = some (psh[i]).1:=by rw [← hF.fst,List.getElem?_map,hu]; rfl
 generalize psh[i] = p at hu hhk
 have hl1:(lgv p).oneCell' = true:=rfl
 have hri:(List.range s.hands.length)[i]? = some i:=List.getElem?_range (by omega)
 have hgi:=hGe i
 have hfi:fitB s seats shifts rows row i = (!decide ((i:Int) ∈ row) && hasB p.1.skills st && srvB s p.1 (hisN shifts (rows ++ [row ++ [(i:Int)]]) i (rows.length + 1))):=by
  unfold fitB
  rw [hhk,hst]
 rw [hfi] at hgi
 by_cases hb:bitS .and .i64 p.1.skills st = st
 case neg=>
  have qb:(bitS .and .i64 p.1.skills st = st) = False:=eq_false hb
  have hgn:G i = none:=by rw [hgi]; unfold hasB; simp [hb]
  rw [findSome_drop hri hgn] at hinv
  refine ⟨?_⟩
  simp (config := { maxSteps := 4000000 }) only [↓sxw,sxw,tf180,sxu,sxl,sxm,simprocAttr,e7,dn]
  refine amid (at_n (hrH _) hdc_len (by omega) hu fun ad=>?_)
  unfold hdc
  simp (config := { maxSteps := 4000000 }) only [↓sxw,sxw,tf180,sxu,sxl,sxm,simprocAttr,hl1,dn,pl180_lk,pl180_8]
  refine ld_olda (by simp [add_block]) c1 nw ?_
  simp (config := { maxSteps := 4000000 }) only [↓sxw,sxw,tf180,sxu,sxl,sxm,simprocAttr,e9,dn]
  first | refine amid (at_1 (hrT _) i1_len hus rfl fun ad1=>?_) | refine at_1 (hrT _) i1_len hus rfl fun ad1=>?_
  simp (config := { maxSteps := 4000000 }) only [↓sxw,sxw,tf180,sxu,sxl,sxm,simprocAttr,e9,dn]
  refine ld_olda (by simp [add_block]) c1 nw ?_
  simp (config := { maxSteps := 4000000 }) only [↓sxw,sxw,tf180,sxu,sxl,sxm,simprocAttr,e9,dn]
  first | refine amid (at_1 (hrT _) i1_len hus rfl fun ad1=>?_) | refine at_1 (hrT _) i1_len hus rfl fun ad1=>?_
  simp (config := { maxSteps := 4000000 }) only [↓sxw,sxw,tf180,sxu,sxl,sxm,simprocAttr,qb,e8,dn]
  exact ⟨(i + 1,Q1),_,rfl,HImp.refl _ _,⟨by simp only []; omega,rfl,hQ1,hC1,hinv⟩,by simp only []; omega⟩
 have qb:(bitS .and .i64 p.1.skills st = st) = True:=eq_true hb
 have zc:(a1.2 = 0) = False:=eq_false (by omega)
 refine ⟨?_⟩
 simp (config := { maxSteps := 4000000 }) only [↓sxw,sxw,tf180,sxu,sxl,sxm,simprocAttr,e7,dn]
 refine amid (at_n (hrH _) hdc_len (by omega) hu fun ad=>?_)
 unfold hdc
 simp (config := { maxSteps := 4000000 }) only [↓sxw,sxw,tf180,sxu,sxl,sxm,simprocAttr,hl1,dn,pl180_lk,pl180_8]
 refine ld_olda (by simp [add_block]) c1 nw ?_
 simp (config := { maxSteps := 4000000 }) only [↓sxw,sxw,tf180,sxu,sxl,sxm,simprocAttr,e9,dn]
 first | refine amid (at_1 (hrT _) i1_len hus rfl fun ad1=>?_) | refine at_1 (hrT _) i1_len hus rfl fun ad1=>?_
 simp (config := { maxSteps := 4000000 }) only [↓sxw,sxw,tf180,sxu,sxl,sxm,simprocAttr,e9,dn]
 refine ld_olda (by simp [add_block]) c1 nw ?_
 simp (config := { maxSteps := 4000000 }) only [↓sxw,sxw,tf180,sxu,sxl,sxm,simprocAttr,e9,dn]
 first | refine amid (at_1 (hrT _) i1_len hus rfl fun ad1=>?_) | refine at_1 (hrT _) i1_len hus rfl fun ad1=>?_
 simp (config := { maxSteps := 4000000 }) only [↓sxw,sxw,tf180,sxu,sxl,sxm,simprocAttr,qb,dn]
 refine ld_olda (by simp [add_block]) c3 nw ?_
 simp (config := { maxSteps := 4000000 }) only [↓sxw,sxw,tf180,sxu,sxl,sxm,simprocAttr,dn]
 first | refine amid (at_1 (hrR _) (rvc_len _) ha1 rfl fun ad2=>?_) | refine at_1 (hrR _) (rvc_len _) ha1 rfl fun ad2=>?_
 simp (config := { maxSteps := 4000000 }) only [↓sxw,sxw,tf180,sxu,sxl,sxm,simprocAttr,zc,Nat.sub_zero,dn]
 refine ⟨by omega,by omega,?_⟩
 have hq1:∃ l1,Q1[rows.length]? = some (l1,a1):=by
  have h3:(Q1.map Prod.snd)[rows.length]? = some a1:=by rw [hQ1]; exact ha1
  rw [List.getElem?_map] at h3
  cases h4:Q1[rows.length]? with
  | none=>rw [h4] at h3; cases h3
  | some q=>rw [h4] at h3; simp only [Option.map_some,Option.some.injEq] at h3; exact ⟨q.1,by rw [← h3]⟩
 obtain ⟨l1,hq1⟩:=hq1
 have hl1w:l1.length = seats.length:=hC1.wid _ (List.mem_of_getElem? hq1)
 have hl1c:l1.take row.length = row:=hC1.cur _ hq1
 have hrm:rowO (l1,a1) ∈ rowsF Q1:=List.mem_map_of_mem (List.mem_of_getElem? hq1)
 have hrk:∀ (k:Nat) (y:Int),row[k]? = some y → (cat i1 l1)[k]? = some (I y):=fun k y hy=>by
  have h3:l1[k]? = some y:=by
   have hk:=(List.getElem?_eq_some_iff.1 hy).1
   rw [← hl1c,List.getElem?_take_of_lt hk] at hy
   exact hy
  have h4:=cat_get (f:=i1) i1_len h3 (j:=0) (by omega)
  rw [Nat.mul_one,Nat.add_zero] at h4
  exact h4.trans rfl
 refine loop_constH (dutO (.slice (some da) s.hands.length dc) bs :: rowsF Q1) (HImp.refl _ _) [(10,10),(74,81)] (fun k:Nat=>[(74,I k)]) (fun k H1=>k ≤ row.length ∧ H1 = dutO (.slice (some da) s.hands.length dc) bs :: rowsF Q1 ∧ (i:Int) ∉ row.take k) (fun k=>row.length - k) 0 ?_ ⟨Nat.zero_le _,rfl,by simp⟩ ?_
 ·simp (config := { maxSteps := 4000000 }) only [↓sxw,sxw,tf180,sxu,sxl,sxm,simprocAttr]
  try simp
 rintro k H1 gg2 ⟨hk,rfl,hnk⟩
 by_cases hkn:k = row.length
 case neg=>
  have f7:((k:Int) < (row.length:Int)) = True:=eq_true (by omega)
  have f8:wrK (k + 1) = ((k + 1:Nat):Int):=(wrap_id (by omega)).trans (by omega)
  obtain ⟨y,hy⟩:∃ y,row[k]? = some y:=⟨_,List.getElem?_eq_getElem (by omega)⟩
  have hyk:=hrk k y hy
  by_cases hyi:y = (i:Int)
  ·have z1:(y = (i:Int)) = True:=eq_true hyi
   have hgn:G i = none:=by rw [hgi]; simp [show (i:Int) ∈ row by rw [← hyi]; exact List.mem_of_getElem? hy]
   rw [findSome_drop hri hgn] at hinv
   refine ⟨?_⟩
   simp (config := { maxSteps := 4000000 }) only [↓sxw,sxw,tf180,sxu,sxl,sxm,simprocAttr,f7,zc,Nat.sub_zero,dn]
   refine ⟨by omega,_,rfl,ld_rowc (List.mem_cons_of_mem _ hrm) hyk (by rw [add_add,Nat.zero_add,Nat.mul_one]) ?_⟩
   simp (config := { maxSteps := 4000000 }) only [↓sxw,sxw,tf180,sxu,sxl,sxm,simprocAttr,z1,e8,dn]
   exact ⟨(i + 1,Q1),_,rfl,HImp.refl _ _,⟨by simp only []; omega,rfl,hQ1,hC1,hinv⟩,by simp only []; omega⟩
  ·have z1:(y = (i:Int)) = False:=eq_false hyi
   refine ⟨?_⟩
   simp (config := { maxSteps := 4000000 }) only [↓sxw,sxw,tf180,sxu,sxl,sxm,simprocAttr,f7,zc,Nat.sub_zero,dn]
   refine ⟨by omega,_,rfl,ld_rowc (List.mem_cons_of_mem _ hrm) hyk (by rw [add_add,Nat.zero_add,Nat.mul_one]) ?_⟩
   simp (config := { maxSteps := 4000000 }) only [↓sxw,sxw,tf180,sxu,sxl,sxm,simprocAttr,z1,f8,dn]
   exact ⟨k + 1,_,by first | exact ⟨rfl,rfl⟩ | rfl,HImp.refl _ _,⟨by omega,rfl,by
    rw [List.take_succ,hy,List.mem_append]
    rintro (h | h)
    ·exact hnk h
    ·simp only [Option.toList_some,List.mem_singleton] at h
     exact hyi h.symm⟩,by omega⟩
 subst hkn
 rw [List.take_length] at hnk
 have f7:((row.length:Int) < (row.length:Int)) = False:=eq_false (by omega)
 obtain ⟨b,hb1⟩:∃ b,bs[i]? = some b:=⟨_,List.getElem?_eq_getElem (by rw [hD.len]; omega)⟩
 obtain ⟨hbX,hbd⟩:=hD.ok i b p.1 hb1 hhk
 have hrD:∀ (bs':List Nat) (H:List HO),bs'.length = s.hands.length → dutO (.slice (some da) s.hands.length dc) bs' ∈ H → Rdv ⟨w,X⟩ H (.slice (some da) s.hands.length dc) 1 (cat pc bs'):=fun bs' H h4 h5=>row_rdv (E:=221) h5 ⟨_,_,_,rfl,by rw [cat_len pc_len,h4],fun h=>by cases h⟩
 have hxb:=shB_mem hsp x (List.mem_of_getElem? hsi)
 have hisp:hisR shifts rows row i ++ [x] = hisR shifts rows (row ++ [(i:Int)]) i:=by rw [hisR_put hnk,hx]
 have eN:((i:Int) < (s.hands.length:Int)) = True:=eq_true (by omega)
 refine ⟨?_⟩
 simp (config := { maxSteps := 4000000 }) only [↓sxw,sxw,tf180,sxu,sxl,sxm,simprocAttr,f7,dn]
 refine ld_olda (by simp [add_block]) c4 nw ?_
 simp (config := { maxSteps := 4000000 }) only [↓sxw,sxw,tf180,sxu,sxl,sxm,simprocAttr,eN,dn]
 first | refine amid (at_1 (hrD bs _ hD.len List.mem_cons_self) pc_len hb1 rfl fun ad3=>?_) | refine at_1 (hrD bs _ hD.len List.mem_cons_self) pc_len hb1 rfl fun ad3=>?_
 simp (config := { maxSteps := 4000000 }) only [↓sxw,sxw,tf180,sxu,sxl,sxm,simprocAttr,eN,dn,pl180_lk,pl180_15]
 refine ld_olda (by simp [add_block]) c4 nw ?_
 simp (config := { maxSteps := 4000000 }) only [↓sxw,sxw,tf180,sxu,sxl,sxm,simprocAttr,eN,dn]
 refine ld_oldn (b:=b) (o:=0) rfl (fun i v hi=>by rw [Nat.zero_add]; exact hbd i v hi) (dcs_len _ _) hbX ?_
 simp (config := { maxSteps := 4000000 }) only [↓sxw,sxw,tf180,sxu,sxl,sxm,simprocAttr,eN,dn]
 refine ld_olda (by simp [add_block]) c2 nw ?_
 simp (config := { maxSteps := 4000000 }) only [↓sxw,sxw,tf180,sxu,sxl,sxm,simprocAttr,eN,dn]
 first | refine amid (at_n (hrS _) spc_lenK (by omega) hsi fun ad4=>?_) | refine at_n (hrS _) spc_lenK (by omega) hsi fun ad4=>?_
 unfold spcK
 simp (config := { maxSteps := 4000000 }) only [↓sxw,sxw,tf180,sxu,sxl,sxm,simprocAttr,eN,dn]
 refine CallOb.pureH (fun w' hp=>add_fn w' (dutP p.1.log (hisR shifts rows row i)) (srv (hisR shifts rows row i)) x.1 x.2 (by omega) (by omega) (by omega)) ?_
 rintro r N ⟨b2,rfl,hb2⟩
 rw [dut_add1,dut_add2,hisp] at hb2
 refine ⟨?_⟩
 simp (config := { maxSteps := 4000000 }) only [↓sxw,sxw,tf180,sxu,sxl,sxm,simprocAttr,eN,dn]
 refine ⟨by omega,_,rfl,wr_dut (A:=N) rfl hD.len (by omega) ?_⟩
 simp (config := { maxSteps := 4000000 }) only [↓sxw,sxw,tf180,sxu,sxl,sxm,simprocAttr,eN,dn]
 refine ld_olda (by simp [add_block]) c3 nw ?_
 simp (config := { maxSteps := 4000000 }) only [↓sxw,sxw,tf180,sxu,sxl,sxm,simprocAttr,dn]
 first | refine amid (at_1 (hrR _) (rvc_len _) ha1 rfl fun ad5=>?_) | refine at_1 (hrR _) (rvc_len _) ha1 rfl fun ad5=>?_
 simp (config := { maxSteps := 4000000 }) only [↓sxw,sxw,tf180,sxu,sxl,sxm,simprocAttr,e9,dn]
 refine ⟨by omega,_,rfl,wr_rowsA (A:=N) (q:=(l1,a1)) rfl hq1 (by simp only []; omega) ?_⟩
 obtain ⟨Q2,hQ2⟩:∃ Q2,Q1.set rows.length (l1.set row.length (i:Int),a1) = Q2:=⟨_,rfl⟩
 have hC2:=hC1.put (x:=(i:Int)) hq1 (by omega)
 simp only [] at hC2
 simp only [] at hQ2 ⊢
 rw [hQ2] at hC2 ⊢
 have hQ2s:Q2.map Prod.snd = Ad:=by
  rw [← hQ2,List.map_set,hQ1]
  exact set_getE_self ha1
 obtain ⟨bs2,hbs2⟩:∃ bs2,bs.set i b2 = bs2:=⟨_,rfl⟩
 have hb2i:bs2[i]? = some b2:=by rw [← hbs2]; exact List.getElem?_set_self (by rw [hD.len]; omega)
 have hb2l:bs2.length = s.hands.length:=by rw [← hbs2,List.length_set]; exact hD.len
 have hb2b:bs2.set i b = bs:=by rw [← hbs2,List.set_set]; exact set_getE_self hb1
 rw [hbs2]
 have hall:∀ (H:List HO) w',Hp ⟨w,X⟩ H w' → HO.cells b2 249 (dcs (dutP p.1.log (hisR shifts rows (row ++ [(i:Int)]) i)) (srv (hisR shifts rows (row ++ [(i:Int)]) i))) ∈ H → SX.Fn Tryz.prog 187 [.pointer (some ⟨b2,0,none⟩),I s.window,I s.duty] w' (fun _=>False) fun r N=>r = .bool (srvB s p.1 (hisR shifts rows (row ++ [(i:Int)]) i)):=fun H w' hp hm=>by
  have h3:=allowed_fn w' b2 _ _ (DutyOk.of hm hp) s.window.toNat s.duty (by omega)
  rw [show ((s.window.toNat:Nat):Int) = s.window by omega] at h3
  refine h3.mono fun r N hr=>?_
  rw [hr]
  unfold srvB
  congr 1
  rw [decide_eq_decide]
  exact alw_serv hob.2.1 (handB_of (hob.2.2.2 _ (List.mem_of_getElem? hhk))).2.2.2.2.1 (hisN_new (by omega) hsp)
 have hmp:=mea_push (seats:=seats) (shifts:=shifts) (rows:=rows) (row:=row) (x:=(i:Int)) (by omega)
 have hfl:∀ (B:List HO) w',Hp ⟨w,X⟩ (dutO (.slice (some da) s.hands.length dc) bs2 :: rowsF Q2 ++ B) w' → HO.cells b2 249 (dcs (dutP p.1.log (hisR shifts rows (row ++ [(i:Int)]) i)) (srv (hisR shifts rows (row ++ [(i:Int)]) i))) ∈ B → SX.Fn Tryz.prog 180 [.pointer (some ⟨bw,0,none⟩),I rows.length,I ((row.length + 1:Nat):Int)] w' (fpsx (dutO (.slice (some da) s.hands.length dc) bs2 :: rowsF Q2)) (FilP seats shifts (.slice (some da) s.hands.length dc) Ad rows (row ++ [(i:Int)]) bs2 (wat s seats shifts f rows (row ++ [(i:Int)]))):=fun B w' hp hm=>by
  have hk:=hp.ext
  have hx2:=hXA Q2 bs2 hQ2s
  have hnx:=not_fpsx hp hm (b:=b2) rfl
  have h3:=ih f (by omega) w' Q2 bs2 rows (row ++ [(i:Int)]) (by rw [hx2]; exact hF.keep hk) hQ2s (fun h hh=>hp.ok h (List.mem_append_left _ hh)) (List.pairwise_append.1 hp.nd).1 hC2 (by
   rw [hx2] at hnx ⊢
   rw [← hbs2]
   exact (hD.keep hk).put hhk hnx (DutyOk.of (List.mem_append_right _ hm) hp)) (by rw [List.length_append,List.length_singleton]; omega) hr2 (fun h=>absurd h h1) (by omega)
  rw [List.length_append,List.length_singleton] at h3
  exact h3
 have hgi2:G i = if srvB s p.1 (hisR shifts rows (row ++ [(i:Int)]) i) then wat s seats shifts f rows (row ++ [(i:Int)]) else none:=by
  rw [hgi]
  unfold hasB hisR
  simp [hnk,hb]
 obtain ⟨SB,hSB⟩:∃ SB,srvB s p.1 (hisR shifts rows (row ++ [(i:Int)]) i) = SB:=⟨_,rfl⟩
 rw [hSB] at hgi2
 simp only [hSB] at hall
 have eP:wrK ((row.length:Int) + 1) = ((row.length + 1:Nat):Int):=(wrap_id (by omega)).trans (by omega)
 have hmD:dutO (.slice (some da) s.hands.length dc) bs2 ∈ N ++ dutO (.slice (some da) s.hands.length dc) bs2 :: rowsF Q2:=by simp
 have hmC:HO.cells b2 249 (dcs (dutP p.1.log (hisR shifts rows (row ++ [(i:Int)]) i)) (srv (hisR shifts rows (row ++ [(i:Int)]) i))) ∈ N ++ dutO (.slice (some da) s.hands.length dc) bs2 :: rowsF Q2:=List.mem_append_left _ hb2
 simp (config := { maxSteps := 4000000 }) only [↓sxw,sxw,tf180,sxu,sxl,sxm,simprocAttr,eN,dn,pl180_lk,pl180_17]
 refine ld_olda (by simp [add_block]) c4 nw ?_
 simp (config := { maxSteps := 4000000 }) only [↓sxw,sxw,tf180,sxu,sxl,sxm,simprocAttr,eN,dn]
 first | refine amid (at_1 (hrD bs2 _ hb2l hmD) pc_len hb2i rfl fun ad6=>?_) | refine at_1 (hrD bs2 _ hb2l hmD) pc_len hb2i rfl fun ad6=>?_
 simp (config := { maxSteps := 4000000 }) only [↓sxw,sxw,tf180,sxu,sxl,sxm,simprocAttr,eN,dn]
 refine ld_olda (by simp [add_block]) c0 nw ?_
 simp (config := { maxSteps := 4000000 }) only [↓sxw,sxw,tf180,sxu,sxl,sxm,simprocAttr,dn]
 refine ld_olda (by simp [add_block]) d1 nr ?_
 simp (config := { maxSteps := 4000000 }) only [↓sxw,sxw,tf180,sxu,sxl,sxm,simprocAttr,dn]
 refine ld_olda (by simp [add_block]) c0 nw ?_
 simp (config := { maxSteps := 4000000 }) only [↓sxw,sxw,tf180,sxu,sxl,sxm,simprocAttr,dn]
 refine ld_olda (by simp [add_block]) d2 nr ?_
 simp (config := { maxSteps := 4000000 }) only [↓sxw,sxw,tf180,sxu,sxl,sxm,simprocAttr,dn]
 refine CallOb.pureH (fun w' hp=>hall _ w' hp hmC) ?_
 rintro r5 N5 rfl
 cases SB with
 | false=>
  have hgn:G i = none:=by rw [hgi2]; rfl
  rw [findSome_drop hri hgn] at hinv
  refine ⟨?_⟩
  simp (config := { maxSteps := 4000000 }) only [↓sxw,sxw,tf180,sxu,sxl,sxm,simprocAttr,eN,dn]
  refine ld_olda (by simp [add_block]) c4 nw ?_
  simp (config := { maxSteps := 4000000 }) only [↓sxw,sxw,tf180,sxu,sxl,sxm,simprocAttr,eN,dn]
  refine ⟨by omega,_,rfl,wr_dut (A:=N5 ++ N) (by rw [List.append_assoc]) hb2l (by omega) ?_⟩
  rw [hb2b]
  simp (config := { maxSteps := 4000000 }) only [↓sxw,sxw,tf180,sxu,sxl,sxm,simprocAttr,e8,dn]
  exact ⟨(i + 1,Q2),_,rfl,HImp.app _ _ _,⟨by simp only []; omega,rfl,hQ2s,hC2.back,hinv⟩,by simp only []; omega⟩
 | true=>
 have hgi3:G i = wat s seats shifts f rows (row ++ [(i:Int)]):=by rw [hgi2]; rfl
 refine ⟨?_⟩
 simp (config := { maxSteps := 4000000 }) only [↓sxw,sxw,tf180,sxu,sxl,sxm,simprocAttr,eN,eP,dn]
 refine CallOb.mutH (A:=dutO (.slice (some da) s.hands.length dc) bs2 :: rowsF Q2) (B:=N5 ++ N) (HImp.perm (by rw [← List.append_assoc]; exact List.perm_append_comm)) fps_FA (fun w' hp=>hfl _ w' hp (List.mem_append_right _ hb2)) ?_
 rintro r N6 ⟨Q',bs',rfl,rfl,hq,hn,hy⟩
 obtain ⟨R,hR⟩:∃ R,wat s seats shifts f rows (row ++ [(i:Int)]) = R:=⟨_,rfl⟩
 rw [hR] at hgi3
 simp only [hR] at hn hy
 rw [hR]
 cases R with
 | some R=>
  rw [findSome_hit hri hgi3] at hinv
  rw [hinv]
  refine ⟨?_⟩
  simp (config := { maxSteps := 4000000 }) only [↓sxw,sxw,tf180,sxu,sxl,sxm,simprocAttr,Option.isSome_some,dn]
  exact ⟨dutO (.slice (some da) s.hands.length dc) bs' :: rowsF Q',by simp,Q',bs',rfl,rfl,hq,fun h=>(by cases h),fun R2 hR2=>by cases hR2; exact hy _ rfl⟩
 | none=>
  rw [findSome_drop hri hgi3] at hinv
  obtain ⟨rfl,hC3⟩:=hn rfl
  refine ⟨?_⟩
  simp (config := { maxSteps := 4000000 }) only [↓sxw,sxw,tf180,sxu,sxl,sxm,simprocAttr,eN,Option.isSome_none,dn]
  refine ld_olda (by simp [add_block]) c4 nw ?_
  simp (config := { maxSteps := 4000000 }) only [↓sxw,sxw,tf180,sxu,sxl,sxm,simprocAttr,eN,dn]
  refine ⟨by omega,_,rfl,wr_dut (A:=[]) rfl hb2l (by omega) ?_⟩
  rw [hb2b]
  simp (config := { maxSteps := 4000000 }) only [↓sxw,sxw,tf180,sxu,sxl,sxm,simprocAttr,e8,dn]
  exact ⟨(i + 1,Q'),_,rfl,HImp.sub (by first | simp | exact List.sublist_append_left _ _),⟨by simp only []; omega,rfl,hq,hC3.back,hinv⟩,by simp only []; omega⟩
end Go.Proofs.YtljpknnhimkkjaaGreatDoor

namespace Go.Proofs.YtljpknnhimkkjaaGreatDoor
open Go.RowKit Go.SX
set_option maxRecDepth 10000
set_option maxHeartbeats 0
set_option linter.unusedSimpArgs false
set_option linter.unusedVariables false
theorem cloneD_fn (w:World) (v:Value) (bs:List Nat) (hs:Sl w v 1 (cat pc bs)) (hb:bs.length ≤ 1000):SX.Fn Tryz.prog 179 [v] w (fun _=>False) fun r N=>∃ a c,r = .slice a bs.length c ∧ ∀ (w0:Base) (H:List HO),HImp w0 (N ++ H) (dutO (.slice a bs.length c) bs :: H):=by
 have hs0:=hs
 obtain ⟨a,n,c,rfl⟩:=hs.shape
 have hn:=hs.le pc_len (by omega)
 subst hn
 cases a with
 | none=>
  have hnil:bs = []:=by
   cases bs with
   | nil=>rfl
   | cons y ys=>
    obtain ⟨_,_,_,e,_,hcl⟩:=hs
    cases e
    obtain ⟨ad,h,_⟩:=hcl 0 _ rfl
    cases h
  subst hnil
  refine walk [] [] (det0K_ok _ _) Tryz.func179 rfl Tryz.ntmps179 res179 (by kernel_rfl) no_facts ?_
  simp (config := { maxSteps := 4000000 }) only [↓sxw,sxw,tf179,sxu,sxl,sxm,simprocAttr,Option.isNone_none,reduceCtorEq,false_imp_iff,true_imp_iff]
  exact ⟨none,0,rfl,fun w0 H=>HImp.nilRow _ _ _ _⟩
 | some ad=>
  refine walk [] [] (det0K_ok _ _) Tryz.func179 rfl Tryz.ntmps179 res179 (by kernel_rfl) no_facts ?_
  simp (config := { maxSteps := 4000000 }) only [↓sxw,sxw,tf179,sxu,sxl,sxm,simprocAttr,Option.isNone_some,reduceCtorEq,false_imp_iff,true_imp_iff]
  intro b
  refine app_at (f:=pc) (l:=[]) (m:=bs) (HImp.refl _ _) pc_len pc_one (fun w' hp'=>Sl.hp (w0:=⟨w,fun _=>False⟩) hs0 (fun _ _=>id) hp') (by simp only [List.length_nil]; omega) fun a2 c2 h2=>?_
  rw [List.nil_append,List.length_nil,Nat.zero_add]
  simp (config := { maxSteps := 4000000 }) only [↓sxw,sxw,tf179,sxu,sxl,sxm,simprocAttr]
  exact ⟨a2,c2,rfl,fun w0 H=>by
   first
    | exact HImp.refl _ _
    | exact HImp.sub (by simp [dutO])⟩
theorem slx_old {w w':World} {A B:List HO} {v:Value} {sz:Nat} {xs:List Value} (h:Sl w v sz xs) (hp:Hp ⟨w,fun _=>False⟩ (A ++ B) w'):SlX w' (fpsx A) v sz xs:=by
 refine ⟨Sl.hp (w0:=⟨w,fun _=>False⟩) h (fun _ _=>id) hp,fun h0 b hb ⟨g,hg,hgb⟩=>?_⟩
 have h1:=h.own_lt h0 hb
 have h2:w.heap.size ≤ b:=(hp.old g (List.mem_append_left _ hg) b hgb).resolve_left id
 omega
theorem slx_row {w0:Base} {w':World} {A B:List HO} {v:Value} {e sz:Nat} {xs:List Value} (h:HO.row v e sz xs ∈ B) (hp:Hp w0 (A ++ B) w'):SlX w' (fpsx A) v sz xs:=
 ⟨row_hp (List.mem_append_right _ h) hp,fun _ b hb=>not_fpsx hp h hb⟩
theorem wat_wid {s:Stn} {seats:List Int} {shifts:List Spn}:∀ (f:Nat) (rows:List (List Int)) (row:List Int) (R:List (List Int)),wat s seats shifts f rows row = some R → (∀ r ∈ rows,r.length = seats.length) → row.length ≤ seats.length → (∀ r ∈ R,r.length = seats.length) ∧ R.length = shifts.length
 | 0,_,_,_,h,_,_=>by cases h
 | f + 1,rows,row,R,h,h1,h2=>by
  rw [wat] at h
  split at h
  ·rename_i h3
   cases h
   exact ⟨h1,h3⟩
  ·split at h
   ·rename_i h4
    refine wat_wid f _ _ R h (fun r hr=>?_) (Nat.zero_le _)
    rcases List.mem_append.1 hr with hr | hr
    ·exact h1 r hr
    ·rw [List.mem_singleton.1 hr]; exact h4
   ·rename_i h4
    obtain ⟨x,hx,h5⟩:=List.exists_of_findSome?_eq_some h
    split at h5
    ·exact wat_wid f _ _ R h5 h1 (by rw [List.length_append,List.length_singleton]; omega)
    ·cases h5
theorem hisR_nil (shifts:List Spn) (k:Nat):hisR shifts [] [] k = []:=by
 unfold hisR
 rw [hisN_push,if_neg (by simp)]
 try rfl
theorem dut_nil (log:List Spn):dutP log [] = srv log:=by
 funext u
 unfold dutP
 exact Bool.or_false _
def zeQ (S:Nat) (Ad:List (Addr × Nat)):List Wq:=Ad.map fun a=>(List.replicate S 0,a)
theorem zeQ_snd (S:Nat) (Ad:List (Addr × Nat)):(zeQ S Ad).map Prod.snd = Ad:=by
 unfold zeQ
 rw [List.map_map]
 exact List.map_id _
theorem zeQ_snoc (S:Nat) (Ad:List (Addr × Nat)) (a:Addr × Nat):rowsF (zeQ S (Ad ++ [a])) = rowsF (zeQ S Ad) ++ [rowO (List.replicate S 0,a)]:=by
 unfold zeQ rowsF
 rw [List.map_append,List.map_append]
 try rfl
theorem rvc_one (S:Nat) (a:Addr × Nat):∀ y ∈ rvc S a,y.oneCell' = true:=by simp [rvc,Value.oneCell']
def wqP (Q:List Wq):List Lm:=Q.map fun q=>(q.1,some q.2.1,q.2.2)
theorem wqP_fst (Q:List Wq):(wqP Q).map Prod.fst = Q.map Prod.fst:=by
 unfold wqP
 rw [List.map_map]
 try rfl
theorem wqP_cat {S:Nat} {Q:List Wq} (h:∀ q ∈ Q,q.1.length = S):cat lmc (wqP Q) = cat (rvc S) (Q.map Prod.snd):=by
 unfold wqP cat
 rw [List.flatMap_map,List.flatMap_map]
 induction Q with
 | nil=>rfl
 | cons q Q ih=>
  rw [List.flatMap_cons,List.flatMap_cons,ih fun p hp=>h p (List.mem_cons_of_mem _ hp)]
  unfold lmc lmv rvc
  rw [h q List.mem_cons_self]
end Go.Proofs.YtljpknnhimkkjaaGreatDoor

namespace Go.Proofs.YtljpknnhimkkjaaGreatDoor
open Go.RowKit Go.SX
set_option maxRecDepth 10000
set_option maxHeartbeats 0
set_option linter.unusedSimpArgs false
set_option linter.unusedVariables false
def pl167_20:Plan:=(ones [0,1,2,3,4,5,6,7,8,9,10,11,12] .fin)
def pl167:List (Nat × Plan):=[(20,pl167_20)]
theorem pl167_lk:(lkO 20 pl167 = some pl167_20):=rfl
theorem watch_fn (w:World) (v:Value) (s:Stn) (hs:StOk w v s) (hsm:s.small) (vt:Value) (seats:List Int) (hvt:Sl w vt 1 (ints seats)) (hs5:seats.length ≤ 1000) (vs:Value) (shifts:List Spn) (hvs:Sl w vs 2 (cat spcK shifts)) (hs1:shifts.length ≤ 1000000):
  SX.Fn Tryz.prog 167 [v,vt,vs] w (fun _=>False) (WatP s seats shifts):=by
 have dn:∀ (g:Nat) (xs:List Value),det0K g xs = none:=fun _ _=>rfl
 have hs0:=hs
 have hvt0:=hvt
 have hvs0:=hvs
 have hop:=fun (H:List HO) w' (hp:Hp ⟨w,fun _=>False⟩ H w')=>open_fnK w' v s (hs0.hp hp) hsm
 have hse:=fun (H:List HO) w' (hp:Hp ⟨w,fun _=>False⟩ H w')=>seated_fn w' vt seats (Sl.hp (w0:=⟨w,fun _=>False⟩) hvt0 (fun _ _=>id) hp) hs5
 obtain ⟨hv,psh,rfl,hpsh,hslh,hlgh⟩:=hs
 obtain ⟨aH,nH,cH,rfl⟩:=hslh.shape
 obtain ⟨aT,nT,cT,rfl⟩:=hvt.shape
 have hnT:=hvt.le i1_len (by omega)
 subst hnT
 obtain ⟨aS,nS,cS,rfl⟩:=hvs.shape
 have hnS:=hvs.le spc_lenK (by omega)
 subst hnS
 have hrS:=hvs.rd0
 have hE:chkW s seats shifts = if s.okB then (if shifts.length > 4 || !shB (-1) shifts then 1 else seatE seats) else 70:=rfl
 unfold WatP
 obtain ⟨E,hEE⟩:∃ E,chkW s seats shifts = E:=⟨_,rfl⟩
 rw [hEE] at hE ⊢
 obtain ⟨WA,hWA⟩:∃ WA,wat s seats shifts (mea seats shifts [] [] + 1) [] [] = WA:=⟨_,rfl⟩
 rw [hWA]
 refine walk [65] pl167 (det0K_ok _ _) Tryz.func167 rfl Tryz.ntmps167 res167 (by kernel_rfl) (H0:=[]) ⟨fun g hg=>by (cases hg),fun g hg=>by (cases hg),List.Pairwise.nil⟩ ?_
 simp (config := { maxSteps := 4000000 }) only [↓sxw,sxw,tf167,sxu,sxl,sxm,simprocAttr,dn]
 refine CallOb.pureH (fun w' hp=>hop _ w' hp) ?_
 rintro r N (⟨hok,rfl⟩ | ⟨hok,br,rfl,hro⟩)
 ·rw [hok,if_neg Bool.false_ne_true] at hE
  rw [hE]
  refine ⟨?_⟩
  simp (config := { maxSteps := 4000000 }) only [↓sxw,sxw,tf167,sxu,sxl,sxm,simprocAttr,dn]
  first | exact .inl ⟨by decide,rfl⟩ | exact .inl trivial | exact .inl (by decide)
 rw [hok,if_pos rfl] at hE
 have hob:=okB_of hok
 refine ⟨?_⟩
 simp (config := { maxSteps := 4000000 }) only [↓sxw,sxw,tf167,sxu,sxl,sxm,simprocAttr,dn]
 refine loop_constH N (HImp.refl _ _) [(6,7),(10,10),(12,12),(25,47)] (fun q:Nat × Int=>[(25,I q.1),(10,I q.2)]) (fun q H1=>q.1 ≤ shifts.length ∧ (-1 ≤ q.2 ∧ q.2 ≤ 400) ∧ H1 = N ∧ shB (-1) shifts = shB q.2 (shifts.drop q.1)) (fun q=>shifts.length - q.1) (0,-1) ?_ ⟨Nat.zero_le _,⟨by decide,by decide⟩,rfl,rfl⟩ ?_
 ·simp (config := { maxSteps := 4000000 }) only [↓sxw,sxw,tf167,sxu,sxl,sxm,simprocAttr]
  try simp
 rintro ⟨i,la⟩ H1 g1 hinv0
 simp only [] at hinv0
 obtain ⟨hi,hla,rfl,hinv⟩:=hinv0
 by_cases hin:i = shifts.length
 case neg=>
  have e7:((i:Int) < (shifts.length:Int)) = True:=eq_true (by omega)
  have e8:wrK (i + 1) = ((i + 1:Nat):Int):=(wrap_id (by omega)).trans (by omega)
  have hil:i < shifts.length:=by omega
  have hx:=List.getElem?_eq_getElem hil
  rw [List.drop_eq_getElem_cons hil,shB] at hinv
  generalize shifts[i] = x at hx hinv
  obtain ⟨lo,hi2⟩:=x
  simp only [] at hinv
  by_cases hg:inBK lo (la + 1) hi2 = true ∧ hi2 ≤ 400
  case neg=>
   have hbad:shB (-1) shifts = false:=by
    rw [hinv]
    by_cases h3:inBK lo (la + 1) hi2 = true
    ·rw [h3,decide_eq_false (fun h4=>hg ⟨h3,h4⟩)]
     try rfl
    ·rw [Bool.not_eq_true] at h3
     rw [h3]
     try rfl
   rw [hbad,Bool.not_false,Bool.or_true,if_pos rfl] at hE
   rw [inB_iffK] at hg
   rw [hE]
   refine ⟨?_⟩
   simp (config := { maxSteps := 4000000 }) only [↓sxw,sxw,tf167,sxu,sxl,sxm,simprocAttr,e7,dn]
   refine amid (at_n (hrS _) spc_lenK (by omega) hx fun ad1=>?_)
   unfold spcK
   by_cases p1:lo ≤ la <;> by_cases p2:lo > hi2 <;> by_cases p3:hi2 > 400 <;> first | (exfalso; omega) | skip
   all_goals
    simp (config := { maxSteps := 4000000 }) only [↓sxw,sxw,tf167,sxu,sxl,sxm,simprocAttr,p1,p2,p3,dn]
    first | exact .inl ⟨by decide,rfl⟩ | exact .inl trivial | exact .inl (by decide)
  obtain ⟨hg1,hg2⟩:=hg
  rw [hg1,decide_eq_true hg2,Bool.true_and,Bool.true_and] at hinv
  rw [inB_iffK] at hg1
  have p1:(lo ≤ la) = False:=eq_false (by omega)
  have p2:(lo > hi2) = False:=eq_false (by omega)
  have p3:(hi2 > 400) = False:=eq_false (by omega)
  refine ⟨?_⟩
  simp (config := { maxSteps := 4000000 }) only [↓sxw,sxw,tf167,sxu,sxl,sxm,simprocAttr,e7,dn]
  refine amid (at_n (hrS _) spc_lenK (by omega) hx fun ad1=>?_)
  unfold spcK
  simp (config := { maxSteps := 4000000 }) only [↓sxw,sxw,tf167,sxu,sxl,sxm,simprocAttr,p1,p2,p3,e8,dn]
  exact ⟨(i + 1,hi2),_,by first | exact ⟨rfl,rfl⟩ | rfl,HImp.refl _ _,⟨by simp only []; omega,by simp only []; omega,rfl,hinv⟩,by simp only []; omega⟩
 have e7:((i:Int) < (shifts.length:Int)) = False:=eq_false (by omega)
 rw [List.drop_of_length_le (by omega),shB] at hinv
 rw [hinv,Bool.not_true,Bool.or_false] at hE
 by_cases hl4:shifts.length > 4
 ·have e1:((shifts.length:Int) > 4) = True:=eq_true (by omega)
  rw [decide_eq_true hl4,if_pos rfl] at hE
  rw [hE]
  refine ⟨?_⟩
  simp (config := { maxSteps := 4000000 }) only [↓sxw,sxw,tf167,sxu,sxl,sxm,simprocAttr,e7,e1,dn]
  first | exact .inl ⟨by decide,rfl⟩ | exact .inl trivial | exact .inl (by decide)
 have e1:((shifts.length:Int) > 4) = False:=eq_false (by omega)
 rw [decide_eq_false hl4,if_neg Bool.false_ne_true] at hE
 refine ⟨?_⟩
 simp (config := { maxSteps := 4000000 }) only [↓sxw,sxw,tf167,sxu,sxl,sxm,simprocAttr,e7,e1,dn]
 refine CallOb.pureH (fun w' hp=>hse _ w' hp) ?_
 rintro r N2 rfl
 rw [← hE]
 by_cases hE0:E = 0
 case neg=>
  have z0:(E = 0) = False:=eq_false hE0
  refine ⟨?_⟩
  simp (config := { maxSteps := 4000000 }) only [↓sxw,sxw,tf167,sxu,sxl,sxm,simprocAttr,z0,dn]
  first | exact .inl ⟨hE0,rfl⟩ | exact .inl trivial
 have z0:(E = 0) = True:=eq_true hE0
 obtain ⟨hv',ao,co,bs,he,k1,k2,k3,k4,k5⟩:=hro
 have hvv:hv' = .slice aH nH cH:=by
  injection he with he
  injection he with he
  exact (List.cons.inj he).1.symm
 subst hvv
 have hS5:seats.length ≤ 5:=seatE_len (by rw [← hE]; exact hE0)
 have hcl0:=fun (H:List HO) w' (hp:Hp ⟨w,fun _=>False⟩ (H ++ H1) w')=>cloneD_fn w' (.slice ao s.hands.length co) bs (row_hp (List.mem_append_right _ k2) hp) (by omega)
 rw [k3] at hcl0
 refine ⟨?_⟩
 simp (config := { maxSteps := 4000000 }) only [↓sxw,sxw,tf167,sxu,sxl,sxm,simprocAttr,z0,dn]
 refine ld_cella (List.mem_append_right _ k1) rfl ?_
 simp (config := { maxSteps := 4000000 }) only [↓sxw,sxw,tf167,sxu,sxl,sxm,simprocAttr,dn]
 refine CallOb.pureH (fun w' hp=>hcl0 _ w' hp) ?_
 rintro r N3 ⟨dad,dc,rfl,hcl⟩
 refine ⟨?_⟩
 simp (config := { maxSteps := 4000000 }) only [↓sxw,sxw,tf167,sxu,sxl,sxm,simprocAttr,dn]
 intro bw
 refine loop_constH (.cells bw 258 [.pointer (some ⟨br,0,none⟩),.slice aT seats.length cT,.slice aS shifts.length cS,.slice none 0 0,.slice dad s.hands.length dc] :: .row (.slice none 0 0) 22 1 [] :: dutO (.slice dad s.hands.length dc) bs :: (rowsF (zeQ seats.length []) ++ H1)) (HImp.cons ((hcl _ _).trans ((HImp.cons (HImp.app _ _ _)).trans (HImp.nilRow _ _ _ _)))) [(68,82)] (fun q:Nat × Option Addr × Nat × List (Addr × Nat)=>[(68,I q.1)])
  (fun q G1=>q.1 ≤ shifts.length ∧ q.2.2.2.length = q.1 ∧ (q.2.1 = none → q.1 = 0) ∧ (∀ a ∈ q.2.2.2,a.2 = seats.length) ∧ G1 = .cells bw 258 [.pointer (some ⟨br,0,none⟩),.slice aT seats.length cT,.slice aS shifts.length cS,.slice q.2.1 q.1 q.2.2.1,.slice dad s.hands.length dc] :: .row (.slice q.2.1 q.1 q.2.2.1) 22 1 (cat (rvc seats.length) q.2.2.2) :: dutO (.slice dad s.hands.length dc) bs :: (rowsF (zeQ seats.length q.2.2.2) ++ H1)) (fun q=>shifts.length - q.1) (0,none,0,[]) ?_ ⟨Nat.zero_le _,rfl,fun _=>rfl,fun a ha=>(by cases ha),rfl⟩ ?_
 ·simp (config := { maxSteps := 4000000 }) only [↓sxw,sxw,tf167,sxu,sxl,sxm,simprocAttr]
  try simp
 rintro ⟨k,ar,cr,Ad⟩ G1 g2 hinv2
 simp only [] at hinv2
 obtain ⟨hk,hAk,har,hAc,rfl⟩:=hinv2
 by_cases hkn:k = shifts.length
 case neg=>
  have f7:((k:Int) < (shifts.length:Int)) = True:=eq_true (by omega)
  have f8:wrK (k + 1) = ((k + 1:Nat):Int):=(wrap_id (by omega)).trans (by omega)
  have hz:zerosL seats.length [I 0] = ints (List.replicate seats.length 0):=zeros_cat i1 0 _
  refine ⟨?_⟩
  simp (config := { maxSteps := 4000000 }) only [↓sxw,sxw,tf167,sxu,sxl,sxm,simprocAttr,f7,dn,pl167_lk,pl167_20]
  refine ld_cella List.mem_cons_self rfl ?_
  simp (config := { maxSteps := 4000000 }) only [↓sxw,sxw,tf167,sxu,sxl,sxm,simprocAttr,dn]
  refine ⟨by omega,by omega,by omega,fun b b1=>?_⟩
  refine app_one (f:=rvc seats.length) (l:=Ad) ((⟨b,0,none⟩,seats.length):Addr × Nat) (HImp.perm (List.perm_middle (l₁:=[_,_]))) (rvc_len _) (rvc_one _) (by omega) fun ad4 c4=>?_
  rw [hAk]
  simp (config := { maxSteps := 4000000 }) only [↓sxw,sxw,tf167,sxu,sxl,sxm,simprocAttr,dn]
  refine wr_cella (A:=[_,_]) rfl (by simp) ?_
  simp (config := { maxSteps := 4000000 }) only [↓sxw,sxw,tf167,sxu,sxl,sxm,simprocAttr,f8,dn]
  refine ⟨(k + 1,some ad4,c4,Ad ++ [((⟨b,0,none⟩,seats.length):Addr × Nat)]),_,rfl,HImp.perm ?_,⟨by simp only []; omega,by simp only [List.length_append,List.length_singleton]; omega,fun h=>(by cases h),fun a ha=>?_,rfl⟩,by simp only []; omega⟩
  ·simp only []
   rw [zeQ_snoc,List.append_assoc,show HO.row (.slice (some (⟨b,0,none⟩:Addr)) seats.length seats.length) 3 1 (zerosL seats.length [Value.int .i64 0]) = rowO (List.replicate seats.length 0,((⟨b,0,none⟩,seats.length):Addr × Nat)) by rw [hz]; unfold rowO wqv; simp only [List.length_replicate]]
   exact (List.perm_middle (l₁:=[_,_])).trans (List.Perm.cons _ (List.Perm.cons _ ((List.Perm.swap _ _ _).trans (List.Perm.cons _ List.perm_middle.symm))))
  ·rcases List.mem_append.1 ha with ha | ha
   ·exact hAc a ha
   ·rw [List.mem_singleton.1 ha]
 subst hkn
 have f7:((shifts.length:Int) < (shifts.length:Int)) = False:=eq_false (by omega)
 have hfill:∀ w',Hp ⟨w,fun _=>False⟩ (dutO (.slice dad s.hands.length dc) bs :: rowsF (zeQ seats.length Ad) ++ (HO.cells bw 258 [.pointer (some ⟨br,0,none⟩),.slice aT seats.length cT,.slice aS shifts.length cS,.slice ar shifts.length cr,.slice dad s.hands.length dc] :: HO.row (.slice ar shifts.length cr) 22 1 (cat (rvc seats.length) Ad) :: H1)) w' → SX.Fn Tryz.prog 180 [.pointer (some ⟨bw,0,none⟩),I 0,I 0] w' (fpsx (dutO (.slice dad s.hands.length dc) bs :: rowsF (zeQ seats.length Ad))) (FilP seats shifts (.slice dad s.hands.length dc) Ad [] [] bs WA):=fun w' hp=>by
  have hB1:HO.cells bw 258 [.pointer (some ⟨br,0,none⟩),.slice aT seats.length cT,.slice aS shifts.length cS,.slice ar shifts.length cr,.slice dad s.hands.length dc] ∈ HO.cells bw 258 [.pointer (some ⟨br,0,none⟩),.slice aT seats.length cT,.slice aS shifts.length cS,.slice ar shifts.length cr,.slice dad s.hands.length dc] :: HO.row (.slice ar shifts.length cr) 22 1 (cat (rvc seats.length) Ad) :: H1:=List.mem_cons_self
  have hBr:∀ g ∈ H1,g ∈ HO.cells bw 258 [.pointer (some ⟨br,0,none⟩),.slice aT seats.length cT,.slice aS shifts.length cS,.slice ar shifts.length cr,.slice dad s.hands.length dc] :: HO.row (.slice ar shifts.length cr) 22 1 (cat (rvc seats.length) Ad) :: H1:=fun g hg=>List.mem_cons_of_mem _ (List.mem_cons_of_mem _ hg)
  have hF:FilW w' (fpsx (dutO (.slice dad s.hands.length dc) bs :: rowsF (zeQ seats.length Ad))) bw br s seats shifts (.slice aH nH cH) (.slice aT seats.length cT) (.slice aS shifts.length cS) (.slice ar shifts.length cr) (.slice dad s.hands.length dc) Ad psh:=by
   refine ⟨not_fpsx hp hB1 rfl,not_fpsx hp (hBr _ k1) rfl,fun i x hx=>?_,fun i x hx=>?_,hpsh,slx_old hslh hp,slx_old hvt0 hp,slx_old hvs0 hp,slx_row (List.mem_cons_of_mem _ List.mem_cons_self) hp,fun a ha=>by rw [hAc a ha]; exact Nat.le_refl _,hAk⟩
   ·rw [cell_of_cells (hp.ok _ (List.mem_append_right _ hB1))]
    simpa using hx
   ·rw [cell_of_cells (hp.ok _ (List.mem_append_right _ (hBr _ k1)))]
    have hi3:i < 3:=(List.getElem?_eq_some_iff.1 hx).1
    have:∀ (l m:List Value),l[i]? = some x → (l ++ m)[i]? = some x:=fun l m h=>by
     rw [List.getElem?_append_left (List.getElem?_eq_some_iff.1 h).1]
     exact h
    simpa using this _ [.slice ao s.hands.length co] hx
  have hD:DutW w' (fpsx (dutO (.slice dad s.hands.length dc) bs :: rowsF (zeQ seats.length Ad))) s shifts [] [] bs:=by
   refine ⟨k3,fun k b h hb hh=>?_⟩
   have hm:=hBr _ (k5 k b h hb hh)
   rw [hisR_nil,dut_nil]
   exact ⟨not_fpsx hp hm rfl,DutyOk.of (List.mem_append_right _ hm) hp⟩
  have hC:Cohr seats shifts [] [] (zeQ seats.length Ad):=by
   refine ⟨by unfold zeQ; rw [List.length_map]; exact hAk,fun q hq=>?_,fun k q hk=>(by cases hk),fun q _=>rfl⟩
   unfold zeQ at hq
   obtain ⟨a,_,rfl⟩:=List.mem_map.1 hq
   exact List.length_replicate
  rw [← hWA]
  exact fill_fn s hok seats (by omega) shifts hinv (by omega) bw br _ _ _ _ dad dc Ad psh (mea seats shifts [] [] + 1) w' (zeQ seats.length Ad) bs [] [] hF (zeQ_snd _ _) (fun h hh=>hp.ok h (List.mem_append_left _ hh)) (List.pairwise_append.1 hp.nd).1 hC hD (Nat.zero_le _) (Nat.zero_le _) (fun _=>rfl) (Nat.lt_succ_self _)
 have hwid:=fun (R:List (List Int)) (h:WA = some R)=>(wat_wid _ _ _ R (hWA.trans h) (fun r hr=>by cases hr) (Nat.zero_le _)).1
 refine ⟨?_⟩
 simp (config := { maxSteps := 4000000 }) only [↓sxw,sxw,tf167,sxu,sxl,sxm,simprocAttr,f7,dn]
 refine CallOb.mutH (A:=dutO (.slice dad s.hands.length dc) bs :: rowsF (zeQ seats.length Ad)) (HImp.perm (List.perm_append_comm_assoc [_,_] (_ :: _) H1)) fps_FA (fun w' hp=>hfill w' hp) ?_
 rintro r N6 ⟨Q',bs',rfl,rfl,hq,hn,hy⟩
 cases WA with
 | none=>
  refine ⟨?_⟩
  simp (config := { maxSteps := 4000000 }) only [↓sxw,sxw,tf167,sxu,sxl,sxm,simprocAttr,Option.isSome_none,dn]
  exact .inr ⟨hE0,.inl trivial⟩
 | some R=>
  refine ⟨?_⟩
  simp (config := { maxSteps := 4000000 }) only [↓sxw,sxw,tf167,sxu,sxl,sxm,simprocAttr,Option.isSome_some,dn]
  refine ld_cella (T:=258) (cs:=[.pointer (some ⟨br,0,none⟩),.slice aT seats.length cT,.slice aS shifts.length cS,.slice ar shifts.length cr,.slice dad s.hands.length dc]) (by simp) rfl ?_
  simp (config := { maxSteps := 4000000 }) only [↓sxw,sxw,tf167,sxu,sxl,sxm,simprocAttr,dn]
  have hy2:=hy R rfl
  have hw2:∀ q ∈ Q',q.1.length = seats.length:=fun q hq=>hwid R rfl q.1 (by rw [← hy2]; exact List.mem_map_of_mem hq)
  refine .inr ⟨hE0,.inr ⟨R,.slice ar shifts.length cr,wqP Q',rfl,rfl,(wqP_fst Q').trans hy2,.inr ?_,fun p hp=>.inr ?_⟩⟩
  ·rw [wqP_cat hw2,hq]
   try simp
  ·unfold wqP at hp
   obtain ⟨q,hq3,rfl⟩:=List.mem_map.1 hp
   have h3:rowO q ∈ rowsF Q':=List.mem_map_of_mem hq3
   exact List.mem_cons_of_mem _ (List.mem_append_left _ h3)
end Go.Proofs.YtljpknnhimkkjaaGreatDoor

namespace Go.Proofs.YtljpknnhimkkjaaGreatDoor
open Go.RowKit Go.SX
set_option maxRecDepth 10000
set_option maxHeartbeats 0
set_option linter.unusedSimpArgs false
set_option linter.unusedVariables false
theorem Fn.okd {P:Program} {f:Nat} {args:List Value} {w:World} {X:Nat → Prop} {Post:Value → List HO → Prop} (h:SX.Fn P f args w X Post):SX.Fn P f args w X fun r N=>Post r N ∧ ∃ w',∀ g ∈ N,g.ok w':=
 Calls.mono h fun _e w' ⟨v,N,a,b,c,d,e',p⟩=>⟨v,N,a,b,c,d,e',p,w',c⟩
noncomputable def watE (s:Stn) (seats:List Int) (shifts:List Spn):Int:=if chkW s seats shifts = 0 then (match wat s seats shifts (mea seats shifts [] [] + 1) [] [] with | none=>3 | some _=>0) else chkW s seats shifts
noncomputable def watR (s:Stn) (seats:List Int) (shifts:List Spn):List (List Int):=if chkW s seats shifts = 0 then (wat s seats shifts (mea seats shifts [] [] + 1) [] []).getD [] else []
def RwN (a:Option Addr) (c:Nat) (ps:List Lm) (N:List HO):Prop:=((a = none ∧ ps = []) ∨ HO.row (.slice a ps.length c) 22 1 (cat lmc ps) ∈ N) ∧ ∀ p ∈ ps,p = nilM ∨ HO.row (lmv p) 3 1 (ints p.1) ∈ N
theorem WatP.uni {s:Stn} {seats:List Int} {shifts:List Spn} {r:Value} {N:List HO} (h:WatP s seats shifts r N) (hw:∃ w',∀ g ∈ N,HO.ok w' g):∃ a c ps,r = .tuple #[.slice a ps.length c,I (watE s seats shifts)] ∧ ps.map Prod.fst = watR s seats shifts ∧ RwN a c ps N:=by
 unfold watE watR RwN
 rcases h with ⟨h0,rfl⟩ | ⟨h0,⟨h1,rfl⟩ | ⟨R,x,ps,h1,rfl,h2,h3,h4⟩⟩
 ·rw [if_neg h0,if_neg h0]
  exact ⟨none,0,[],rfl,rfl,.inl ⟨rfl,rfl⟩,fun p hp=>by cases hp⟩
 ·rw [if_pos h0,if_pos h0,h1]
  exact ⟨none,0,[],rfl,rfl,.inl ⟨rfl,rfl⟩,fun p hp=>by cases hp⟩
 ·rw [if_pos h0,if_pos h0,h1]
  rcases h3 with ⟨rfl,rfl⟩ | h3
  ·exact ⟨none,0,[],rfl,h2,.inl ⟨rfl,rfl⟩,fun p hp=>by cases hp⟩
  ·obtain ⟨w',hw⟩:=hw
   have h5:Sl w' x 1 (cat lmc ps):=RowOk.sl (hw _ h3)
   obtain ⟨a,n,c,rfl⟩:=h5.shape
   have hn:=h5.le lmc_len (by omega)
   subst hn
   exact ⟨a,c,ps,rfl,h2,.inr h3,h4⟩
theorem RwN.rdv {a:Option Addr} {c:Nat} {ps:List Lm} {N H:List HO} {w0:Base} (h:RwN a c ps N) (hm:∀ g ∈ N,g ∈ H) (ha:a = none → ps = []):Rdv w0 H (.slice a ps.length c) 1 (cat lmc ps):=by
 rcases h.1 with ⟨rfl,rfl⟩ | h
 ·exact ⟨none,0,c,rfl,rfl,fun i x hx=>by simp [cat] at hx⟩
 ·exact row_rdv (E:=22) (hm _ h) ⟨_,_,_,rfl,by rw [cat_len lmc_len],fun h=>by rw [ha h]; rfl⟩
theorem RwN.sl {a:Option Addr} {c:Nat} {ps:List Lm} {N H:List HO} {w0:Base} {w:World} (h:RwN a c ps N) (hm:∀ g ∈ N,g ∈ H) (hp:Hp w0 H w) {p:Lm} (hp2:p ∈ ps):Sl w (lmv p) 1 (ints p.1):=by
 rcases h.2 p hp2 with rfl | h
 ·exact Sl.nil _ _
 ·exact row_hp (hm _ h) hp
end Go.Proofs.YtljpknnhimkkjaaGreatDoor

