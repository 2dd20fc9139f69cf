/- Part of the proof;words that it uses. -/
import Derived.Test.YtecpanfndodjgaaGreatDoorPNestedx14
namespace Go.Proofs.YtecpanfndodjgaaGreatDoor.Pure
open Go.RowKit Go.Proofs.YtecpanfndodjgaaGreatDoor.PNested Go.Proofs.YtecpanfndodjgaaGreatDoorW.PrintWords Go.Proofs.YtecpanfndodjgaaGreatDoorW.PrintLast
set_option linter.unusedSimpArgs false
set_option linter.unusedVariables false
theorem kD (l:List Int) (i:Nat) (h:i < l.length):rd l (i:Int) = l[i]:=by
  simp [rd,List.getD_eq_getElem?_getD,h]
theorem wrap64_in {n:Int} (h : -9223372036854775808 ≤ n ∧ n ≤ 9223372036854775807):wrap64 n = n:=by
  unfold wrap64;omega
theorem zh:maxLen ≤ 9223372036854775807:=by unfold maxLen;decide
theorem BP (s:ByteArray) (i:Int):0 ≤ bt s i ∧ bt s i ≤ 255:=by
  unfold bt
  split
  · rename_i h
    have:=UInt8.toNat_lt (s[i.toNat]'h)
    omega
  · omega
theorem strOfNums_size (l:List Int):(strOfNums l).size = l.length:=by
  show (strOfNums l).data.size = _
  simp [strOfNums]
theorem sU (l:List Int) (h:∀ x ∈ l,0 ≤ x ∧ x ≤ 255):bytesOf (strOfNums l) = l:=by
  unfold bytesOf strOfNums
  simp only [List.map_map]
  conv=>rhs;rw [← List.map_id l]
  apply List.map_congr_left
  intro x hx
  have:=h x hx
  simp only [Function.comp,id]
  rw [UInt8.toNat_ofNat_of_lt' (by show x.toNat < 256;omega)]
  omega
theorem yR (s:ByteArray):strOfNums (bytesOf s) = s:=by
  unfold bytesOf strOfNums
  rw [List.map_map]
  have h:(s.data.toList.map ((fun n:Int=>UInt8.ofNat n.toNat) ∘ fun b:UInt8=>(b.toNat:Int))) = s.data.toList:=by
    conv=>rhs;rw [← List.map_id s.data.toList]
    apply List.map_congr_left
    intro x _
    simp
  rw [h]
theorem nJ (s:ByteArray):∀ x ∈ bytesOf s,0 ≤ x ∧ x ≤ 255:=by
  intro x hx
  obtain ⟨b,_,rfl⟩:=List.mem_map.1 hx
  have:=UInt8.toNat_lt b
  omega
def bz.dg (v:Int):Int:=bt (⟨#[65,66,67,68,69,70,71,72,73,74,75,76,77,78,79,80,81,82,83,84,85,86,87,88,89,90,97,98,99,100,101,102,103,104,105,106,107,108,109,110,111,112,113,114,115,116,117,118,119,120,121,122,48,49,50,51,52,53,54,55,56,57,43,47]⟩ : ByteArray) v
def bz.q:List Int → List Int
  | []=>[]
  | [a]=>[bz.dg (a / 4 % 64),bz.dg (a % 4 * 16),61,61]
  | [a,b]=>[bz.dg (a / 4 % 64),bz.dg (a % 4 * 16 + b / 16),bz.dg (b % 16 * 4),61]
  | a :: b :: c :: rest=>bz.dg (a / 4 % 64) :: bz.dg (a % 4 * 16 + b / 16) :: bz.dg (b % 16 * 4 + c / 64) :: bz.dg (c % 64) :: bz.q rest
def bz.dk (n:Nat) (V:Int) (k:Nat):Int:=if n < k then 61 else bz.dg (V / 2 ^ (18 - 6 * k) % 64)
def bz.four (n:Nat) (V:Int):List Int:=[bz.dk n V 0,bz.dk n V 1,bz.dk n V 2,bz.dk n V 3]
theorem bz.bytes3 (l cs:List Int) (kk:Nat) (g0 g1 g2:Int) (hall:l.all (fun x=>decide (0 ≤ x ∧ x ≤ 255)) = true) (hc:cs = (l.drop kk).take 3)
    (hval:(cs = [g0] ∧ g1 = 0 ∧ g2 = 0) ∨ (cs = [g0,g1] ∧ g2 = 0) ∨ cs = [g0,g1,g2]):(0 ≤ g0 ∧ g0 ≤ 255) ∧ (0 ≤ g1 ∧ g1 ≤ 255) ∧ (0 ≤ g2 ∧ g2 ≤ 255):=by
  have hm:∀ x,x ∈ cs → 0 ≤ x ∧ x ≤ 255:=by
    intro x hx
    rw [hc] at hx
    have h1:=List.mem_of_mem_drop (List.mem_of_mem_take hx)
    exact of_decide_eq_true (List.all_eq_true.1 hall x h1)
  rcases hval with ⟨h,rfl,rfl⟩ | ⟨h,rfl⟩ | h
  · exact ⟨hm g0 (by rw [h];simp),by omega,by omega⟩
  · exact ⟨hm g0 (by rw [h];simp),hm g1 (by rw [h];simp),by omega⟩
  · exact ⟨hm g0 (by rw [h];simp),hm g1 (by rw [h];simp),hm g2 (by rw [h];simp)⟩
theorem bz.xG (l cs:List Int) (kk:Nat) (g0 g1 g2:Int) (hall:l.all (fun x=>decide (0 ≤ x ∧ x ≤ 255)) = true) (hc:cs = (l.drop kk).take 3)
    (hval:(cs = [g0] ∧ g1 = 0 ∧ g2 = 0) ∨ (cs = [g0,g1] ∧ g2 = 0) ∨ cs = [g0,g1,g2]):bz.q (l.drop kk) = bz.four cs.length (g0 * 65536 + g1 * 256 + g2) ++ bz.q (l.drop (kk + 3)):=by
  obtain ⟨h0,h1,h2⟩:=bz.bytes3 l cs kk g0 g1 g2 hall hc hval
  rw [show l.drop (kk + 3) = (l.drop kk).drop 3 by rw [List.drop_drop]]
  generalize l.drop kk = m at hc
  have p0:(2:Int) ^ (18 - 6 * 0) = 262144:=by decide
  have p1:(2:Int) ^ (18 - 6 * 1) = 4096:=by decide
  have p2:(2:Int) ^ (18 - 6 * 2) = 64:=by decide
  have p3:(2:Int) ^ (18 - 6 * 3) = 1:=by decide
  match m,hc with
  | [],hc =>
    simp only [List.take_nil] at hc
    rcases hval with ⟨h,_⟩ | ⟨h,_⟩ | h <;> rw [hc] at h <;> cases h
  | [a],hc =>
    have hc':cs = [a]:=by rw [hc];rfl
    rcases hval with ⟨h,rfl,rfl⟩ | ⟨h,_⟩ | h <;> rw [hc'] at h <;> cases h
    rw [hc']
    show [bz.dg (g0 / 4 % 64),bz.dg (g0 % 4 * 16),61,61] = [bz.dk 1 _ 0,bz.dk 1 _ 1,bz.dk 1 _ 2,bz.dk 1 _ 3] ++ bz.q []
    simp only [bz.dk,p0,p1,p2,p3,bz.q,List.append_nil]
    rw [if_neg (by omega),if_neg (by omega),if_pos (by omega),if_pos (by omega),show (g0 * 65536 + 0 * 256 + 0) / 262144 % 64 = g0 / 4 % 64 by omega,show (g0 * 65536 + 0 * 256 + 0) / 4096 % 64 = g0 % 4 * 16 by omega]
  | [a,b],hc =>
    have hc':cs = [a,b]:=by rw [hc];rfl
    rcases hval with ⟨h,_⟩ | ⟨h,rfl⟩ | h <;> rw [hc'] at h <;> cases h
    rw [hc']
    show [bz.dg (g0 / 4 % 64),bz.dg (g0 % 4 * 16 + g1 / 16),bz.dg (g1 % 16 * 4),61] = [bz.dk 2 _ 0,bz.dk 2 _ 1,bz.dk 2 _ 2,bz.dk 2 _ 3] ++ bz.q []
    simp only [bz.dk,p0,p1,p2,p3,bz.q,List.append_nil]
    rw [if_neg (by omega),if_neg (by omega),if_neg (by omega),if_pos (by omega),show (g0 * 65536 + g1 * 256 + 0) / 262144 % 64 = g0 / 4 % 64 by omega,show (g0 * 65536 + g1 * 256 + 0) / 4096 % 64 = g0 % 4 * 16 + g1 / 16 by omega,show (g0 * 65536 + g1 * 256 + 0) / 64 % 64 = g1 % 16 * 4 by omega]
  | a :: b :: c :: rest,hc =>
    have hc':cs = [a,b,c]:=by rw [hc];rfl
    rcases hval with ⟨h,_⟩ | ⟨h,_⟩ | h <;> rw [hc'] at h <;> cases h
    rw [hc']
    show bz.dg (g0 / 4 % 64) :: bz.dg (g0 % 4 * 16 + g1 / 16) :: bz.dg (g1 % 16 * 4 + g2 / 64) :: bz.dg (g2 % 64) :: bz.q rest = [bz.dk 3 _ 0,bz.dk 3 _ 1,bz.dk 3 _ 2,bz.dk 3 _ 3] ++ bz.q rest
    simp only [bz.dk,p0,p1,p2,p3]
    rw [if_neg (by omega),if_neg (by omega),if_neg (by omega),if_neg (by omega),show (g0 * 65536 + g1 * 256 + g2) / 262144 % 64 = g0 / 4 % 64 by omega,show (g0 * 65536 + g1 * 256 + g2) / 4096 % 64 = g0 % 4 * 16 + g1 / 16 by omega,show (g0 * 65536 + g1 * 256 + g2) / 64 % 64 = g1 % 16 * 4 + g2 / 64 by omega,show (g0 * 65536 + g1 * 256 + g2) / 1 % 64 = g2 % 64 by omega]
    rfl
theorem uu (a b c:Int):fC.f a b c = some (decide (b ≤ a ∧ a ≤ c)):=by
  unfold fC.f;by_cases h:a ≥ b <;> simp [h] <;> omega
def oZ (c:Int):Prop:=(0 ≤ c ∧ c ≤ 160) ∨ c = 173 ∨ c = 167 ∨ c = 8470 ∨ ((1025 ≤ c ∧ c ≤ 1119) ∧ c ≠ 1037 ∧ c ≠ 1104 ∧ c ≠ 1117)
instance (c:Int):Decidable (oZ c):=by unfold oZ;infer_instance
def wo (c:Int):Int:=if (0 ≤ c ∧ c ≤ 160) ∨ c = 173 then c else if c = 167 then 253 else if c = 8470 then 240 else c - 864
theorem zk (k:Nat) (c:Int):∃ v,iI.f (k + 1) c = some v ∧ (v ≥ 0 ↔ oZ c) ∧ (oZ c → v = wo c):=by
  simp only [iI.f,iI.j0,uu,Option.bind_some,decide_eq_true_eq,beq_iff_eq,if_true]
  unfold wrap64 oZ wo
  by_cases h1:0 ≤ c ∧ c ≤ 160
  · rw [if_pos h1,if_pos (Or.inl h1)];refine ⟨c,rfl,?_,fun _=>rfl⟩;omega
  · rw [if_neg h1]
    by_cases h2:c = 173
    · rw [if_pos h2,if_pos (Or.inr h2)];refine ⟨c,rfl,?_,fun _=>rfl⟩;omega
    · rw [if_neg h2,if_neg (show ¬ ((0 ≤ c ∧ c ≤ 160) ∨ c = 173) by omega)]
      repeat' split
      all_goals refine ⟨_,rfl,?_,?_⟩
      all_goals omega
def hasB (a c:Int):Bool:=if a = 1 then decide (0 ≤ c ∧ c ≤ 127) else if a = 2 then decide (0 ≤ c ∧ c ≤ 255) else if a = 3 then decide (oZ c) else true
theorem BL (k:Nat) (a c:Int):oW.f (k + 1) a c = some (hasB a c):=by
  obtain ⟨v,hv,hp,_⟩:=zk k c
  simp only [oW.f,uu,hv,Option.bind_some,hasB]
  repeat' split
  all_goals simp [hp]
def jQ (a c:Int):List Int:=
  if a = 1 ∨ a = 2 then [c % 256] else if a = 3 then [wo c % 256] else if a = 5 then [(wrap64 (Int.tdiv c 256)) % 256,(Int.tmod c 256) % 256]
  else if c < 128 then [c % 256] else if c < 2048 then [(wrap64 (192 + (wrap64 (Int.tdiv c 64)))) % 256,(wrap64 (128 + (Int.tmod c 64))) % 256]
  else [(wrap64 (224 + (wrap64 (Int.tdiv c 4096)))) % 256,(wrap64 (128 + (Int.tmod (wrap64 (Int.tdiv c 64)) 64))) % 256,(wrap64 (128 + (Int.tmod c 64))) % 256]
theorem Ah (a c:Int):(jQ a c).length ≤ 3:=by
  unfold jQ
  repeat' split
  all_goals simp
theorem wZ (a:Int):∀ l:List Int,(l.flatMap (jQ a)).length ≤ 3 * l.length
  | []=>by simp
  | x :: xs=>by
    have h1:=wZ a xs
    have h2:=Ah a x
    rw [List.flatMap_cons,List.length_append,List.length_cons]
    omega
theorem D9 (k:Nat) (a c:Int) (ha:1 ≤ a ∧ a ≤ 5) (hh:hasB a c = true):iW.f (k + 2) a c = some (jQ a c):=by
  obtain ⟨v,hv,_,hp⟩:=zk k c
  unfold iW.f jQ
  have:a = 1 ∨ a = 2 ∨ a = 3 ∨ a = 4 ∨ a = 5:=by omega
  rcases this with rfl | rfl | rfl | rfl | rfl
  · simp [iW.j0]
  · simp [iW.j0]
  · have hc:oZ c:=by unfold hasB at hh;simpa using hh
    simp [iW.j0,hv,hp hc]
  · simp [iW.j0]
    repeat' split
    all_goals rfl
  · simp [iW.j0]
def lQ (a:Int) (acc l:List Int):List Int × Int:=
  if l.all (hasB a) = true then (if 400 < (acc ++ l.flatMap (jQ a)).length then ([],2) else (acc ++ l.flatMap (jQ a),0)) else ([],8)
theorem fM.bY (a:Int) (ha:1 ≤ a ∧ a ≤ 5) (L:List Int) (hb:L.length ≤ 1048576):∀ (n k i:Nat) (acc:List Int),L.length = i + n → n + 2 < k → acc.length + 3 * n ≤ 4194304 → fM.l0 k a L acc (i:Int) = some (lQ a acc (L.drop i))
  | _,0,_,_,_,h,_=>absurd h (by omega)
  | 0,k + 1,i,acc,hi,_,_=>by
    have h1:¬ ((i:Int) < (L.length:Int)):=by omega
    unfold fM.l0 lQ
    rw [if_neg h1,List.drop_eq_nil_of_le (by omega)]
    simp only [List.all_nil,if_true,List.flatMap_nil,List.append_nil]
    by_cases h2:400 < acc.length
    · rw [if_pos (by omega),if_pos h2]
    · rw [if_neg (by omega),if_neg h2]
  | n + 1,k + 1,i,acc,hi,h,hc=>by
    have h1:(i:Int) < (L.length:Int):=by omega
    have h2:(0:Int) ≤ (i:Int):=by omega
    have h4:wrap64 ((i:Int) + 1) = ((i + 1:Nat):Int):=by rw [wrap64_in (by omega)];omega
    obtain ⟨k2,rfl⟩ : ∃ k2,k = k2 + 2:=⟨k - 2,by omega⟩
    unfold fM.l0
    rw [if_pos h1,if_pos h2,kD L i (by omega),BL (k2 + 1),Option.bind_some,List.drop_eq_getElem_cons (by omega:i < L.length),h4]
    have hl:=Ah a L[i]
    cases hh:hasB a L[i] with
    | true =>
      rw [if_pos rfl,D9 k2 a _ ha hh,Option.bind_some,if_pos (by omega),fM.bY a ha L hb n (k2 + 2) (i + 1) _ (by omega) (by omega) (by rw [List.length_append];omega)]
      unfold lQ
      rw [List.all_cons,hh,Bool.true_and,List.flatMap_cons,List.append_assoc]
    | false =>
      rw [if_neg (by decide)]
      unfold lQ
      rw [List.all_cons,hh,Bool.false_and,if_neg (by decide)]
theorem Eh (a c:Int):∀ x ∈ jQ a c,0 ≤ x ∧ x ≤ 255:=by
  intro x hx
  unfold jQ at hx
  repeat' split at hx
  all_goals simp only [List.mem_cons,List.mem_nil_iff,or_false] at hx
  all_goals omega
def oz (x:Int):Bool:=decide (32 ≤ x ∧ x ≤ 126)
def qg:Int → List Int → Bool
  | _,[]=>true
  | p,x :: r=>oz x && !(decide (p = 61) && decide (x = 63)) && qg x r
def nC:List Int → Bool
  | []=>false
  | x :: r=>(decide (x = 61) && decide (r.head? = some 63)) || nC r
theorem Bf:∀ (l:List Int) (p:Int),qg p l = (l.all oz && !(nC (p :: l)))
  | [],p=>by simp [qg,nC]
  | x :: r,p=>by
    rw [qg,Bf r x,List.all_cons]
    have h:nC (p :: x :: r) = ((decide (p = 61) && decide (x = 63)) || nC (x :: r)):=by
      conv=>lhs;rw [nC]
      simp
    rw [h]
    cases oz x <;> cases (decide (p = 61) && decide (x = 63)) <;> cases r.all oz <;> cases nC (x :: r) <;> rfl
theorem fV.bY (L:List Int) (hb:L.length ≤ 1048576):∀ (n k i:Nat),L.length = i + n → n < k → fV.l0 k L (i:Int) = some (qg (if i = 0 then 0 else rd L ((i - 1:Nat):Int)) (L.drop i))
  | _,0,_,_,h=>absurd h (by omega)
  | 0,k + 1,i,hi,_=>by
    have h1:¬ ((i:Int) < (L.length:Int)):=by omega
    rw [fV.l0,if_neg h1,List.drop_eq_nil_of_le (by omega)]
    rfl
  | n + 1,k + 1,i,hi,h=>by
    have hlt:i < L.length:=by omega
    have h1:(i:Int) < (L.length:Int):=by omega
    have h2:(0:Int) ≤ (i:Int):=by omega
    have ih:=fV.bY L hb n k (i + 1) (by omega) (by omega)
    rw [if_neg (by omega),Nat.add_sub_cancel] at ih
    rw [fV.l0,if_pos h1,if_pos h2,uu,Option.bind_some,List.drop_eq_getElem_cons hlt,qg,← kD L i hlt]
    have w1:wrap64 ((i:Int) + 1) = ((i + 1:Nat):Int):=by rw [wrap64_in (by omega)];omega
    rw [w1,ih]
    unfold oz
    by_cases c:32 ≤ rd L (i:Int) ∧ rd L (i:Int) ≤ 126
    · rw [decide_eq_true c,if_pos rfl,Bool.true_and]
      by_cases g:i = 0
      · rw [if_neg (by omega),if_pos g];rfl
      · have w2:wrap64 ((i:Int) - 1) = ((i - 1:Nat):Int):=by rw [wrap64_in (by omega)];omega
        have g1:(i:Int) > 0:=by omega
        have g2:(0:Int) ≤ ((i - 1:Nat):Int):=by omega
        have g3:((i - 1:Nat):Int) < (L.length:Int):=by omega
        rw [w2,if_pos g1,if_pos g2,if_pos g3,if_neg g]
        by_cases e1:rd L ((i - 1:Nat):Int) = 61 <;> by_cases e2:rd L (i:Int) = 63 <;> simp [e1,e2]
    · rw [decide_eq_false c];rfl
theorem Dy (L:List Int) (hb:L.length ≤ 1048576) (k:Nat) (hk:L.length < k):fV.f k L = some (L.all oz && !(nC L)):=by
  unfold fV.f
  have:=fV.bY L hb L.length k 0 (by omega) hk
  rw [show ((0:Nat):Int) = 0 from rfl,if_pos rfl,List.drop_zero,Bf] at this
  rw [this]
  congr 3
theorem q_len:∀ (n:Nat) (L:List Int),L.length ≤ n → (bz.q L).length ≤ 4 * L.length + 4:=by
  intro n
  induction n using Nat.strongRecOn with
  | _ n ih =>
    intro L h
    match L,h with
    | [],_=>simp [bz.q]
    | [a],_=>simp [bz.q]
    | [a,b],_=>simp [bz.q]
    | a :: b :: c :: r,h =>
      simp only [List.length_cons] at h
      have:=ih r.length (by omega) r (Nat.le_refl _)
      simp only [bz.q,List.length_cons]
      omega
theorem AY (a:Int) (l:List Int):∀ x ∈ l.flatMap (jQ a),0 ≤ x ∧ x ≤ 255:=by
  intro x hx
  obtain ⟨c,_,hc⟩:=List.mem_flatMap.1 hx
  exact Eh a c x hc
theorem yB:∀ (l:List Int),l.all oz = true → l.flatMap (jQ 4) = l
  | [],_=>rfl
  | x :: r,h=>by
    rw [List.all_cons,Bool.and_eq_true] at h
    have hx:32 ≤ x ∧ x ≤ 126:=of_decide_eq_true h.1
    rw [List.flatMap_cons,yB r h.2]
    have:jQ 4 x = [x]:=by
      unfold jQ
      rw [if_neg (by decide),if_neg (by decide),if_neg (by decide),if_pos (by omega),show x % 256 = x by omega]
    rw [this]
    rfl
theorem tu (n:Int) (h:0 ≤ n ∧ n < 64):ik.f n = some (bz.dg n):=by
  unfold ik.f bz.dg
  rw [if_pos h.1,if_pos h.2]
theorem zA (V d:Int) (hV:0 ≤ V ∧ V ≤ 16777215) (hd:0 < d):wrap64 (Int.tdiv V d) = V / d:=by
  rw [Int.tdiv_eq_ediv_of_nonneg hV.1,wrap64_in]
  have h1:=Int.ediv_nonneg hV.1 (by omega:0 ≤ d)
  have h2:=Int.ediv_le_self d hV.1
  omega
theorem yF (V d:Int) (hV:0 ≤ V ∧ V ≤ 16777215) (hd:0 < d):Int.tmod (wrap64 (Int.tdiv V d)) 64 = V / d % 64:=by
  rw [zA V d hV hd,Int.tmod_eq_emod_of_nonneg (Int.ediv_nonneg hV.1 (by omega))]
theorem BV (V:Int) (hV:0 ≤ V ∧ V ≤ 16777215):Int.tmod V 64 = V % 64:=Int.tmod_eq_emod_of_nonneg hV.1
theorem vM (x:Int):0 ≤ x % 64 ∧ x % 64 < 64:=by omega
theorem Ey (i:Nat) (h:i ≤ 1048576):wrap64 ((i:Int) + 1) = (i:Int) + 1 ∧ wrap64 ((i:Int) + 2) = (i:Int) + 2 ∧ wrap64 ((i:Int) + 3) = ((i + 3:Nat):Int):=by
  refine ⟨wrap64_in (by omega),wrap64_in (by omega),?_⟩
  rw [wrap64_in (by omega)]
  omega
theorem bW.vV (k:Nat) (L x3:List Int) (i n:Nat) (V:Int) (hb:L.length ≤ 1048576) (hi:i < L.length) (hn:n = min (L.length - i) 3) (hV:0 ≤ V ∧ V ≤ 16777215) (hx:x3.length + 4 < 140737488355328) :
    bW.j2 (k + 1) L x3 i V = bW.l0 k L (x3 ++ bz.four n V) ((i + 3:Nat):Int):=by
  have e1:=zA V 262144 hV (by decide)
  have e2:=yF V 4096 hV (by decide)
  have e3:=yF V 64 hV (by decide)
  have e4:=BV V hV
  have v0:0 ≤ V / 262144 ∧ V / 262144 < 64:=by clear e1 e2 e3 e4 hx hn;omega
  have v1:=vM (V / 4096)
  have v2:=vM (V / 64)
  have v3:=vM V
  obtain ⟨w1,w2,w3⟩:=Ey i (by omega)
  have p0:(2:Int) ^ (18 - 6 * 0) = 262144:=by decide
  have p1:(2:Int) ^ (18 - 6 * 1) = 4096:=by decide
  have p2:(2:Int) ^ (18 - 6 * 2) = 64:=by decide
  have p3:(2:Int) ^ (18 - 6 * 3) = 1:=by decide
  have d0:V / 262144 % 64 = V / 262144:=Int.emod_eq_of_lt v0.1 v0.2
  have d3:V / 1 % 64 = V % 64:=by rw [Int.ediv_one]
  unfold bW.j2
  rw [e1,e2,e3,e4,w2,w1,w3,tu _ v0,tu _ v1,tu _ v2,tu _ v3]
  simp only [Option.bind_some]
  unfold bz.four bz.dk
  rw [p0,p1,p2,p3,d0,d3]
  clear e1 e2 e3 e4 w1 w2 w3 p0 p1 p2 p3 d0 d3 v0 v1 v2 v3 hV
  by_cases h2:i + 2 < L.length
  · obtain rfl:n = 3:=by omega
    rw [if_neg (by omega),if_neg (by omega),if_pos (by simp;omega)]
    simp
  · by_cases h1:i + 1 < L.length
    · obtain rfl:n = 2:=by omega
      rw [if_pos (by omega),if_pos (by simp),if_neg (by omega),if_pos (by simp;omega)]
      simp
    · obtain rfl:n = 1:=by omega
      rw [if_pos (by omega),if_pos (by simp),if_pos (by omega),if_pos (by simp),if_pos (by simp;omega)]
      simp
theorem bW.one (k:Nat) (L x3:List Int) (i:Nat) (hb:L.length ≤ 1048576) (hB:∀ x ∈ L,0 ≤ x ∧ x ≤ 255) (hi:i < L.length) (hx:x3.length + 4 < 140737488355328) :
    ∃ four:List Int,bz.q (L.drop i) = four ++ bz.q (L.drop (i + 3)) ∧ four.length = 4 ∧ bW.l0 (k + 3) L x3 i = bW.l0 k L (x3 ++ four) ((i + 3:Nat):Int):=by
  have hall:L.all (fun x=>decide (0 ≤ x ∧ x ≤ 255)) = true:=by
    rw [List.all_eq_true];intro x hx;exact decide_eq_true (hB x hx)
  have h1:(i:Int) < (L.length:Int):=by omega
  have h2:(0:Int) ≤ (i:Int):=by omega
  have w2:wrap64 ((i:Int) + 2) = ((i + 2:Nat):Int):=by rw [wrap64_in (by omega)];omega
  have w1:wrap64 ((i:Int) + 1) = ((i + 1:Nat):Int):=by rw [wrap64_in (by omega)];omega
  have ha:=hB L[i] (List.getElem_mem hi)
  have ra:=kD L i hi
  have hd:L.drop i = L[i] :: L.drop (i + 1):=List.drop_eq_getElem_cons hi
  generalize L[i] = a at ha ra hd
  have wa:wrap64 a = a:=wrap64_in (by omega)
  have wa2:wrap64 (a * 65536) = a * 65536:=wrap64_in (by omega)
  by_cases h3:i + 1 < L.length
  · have hb1:=hB L[i + 1] (List.getElem_mem h3)
    have rb:=kD L (i + 1) h3
    have hd2:L.drop (i + 1) = L[i + 1] :: L.drop (i + 2):=List.drop_eq_getElem_cons h3
    generalize L[i + 1] = b at hb1 rb hd2
    have wb:wrap64 b = b:=wrap64_in (by omega)
    have wb2:wrap64 (b * 256) = b * 256:=wrap64_in (by omega)
    have wab:wrap64 (a * 65536 + b * 256) = a * 65536 + b * 256:=wrap64_in (by omega)
    by_cases h4:i + 2 < L.length
    · have hc1:=hB L[i + 2] (List.getElem_mem h4)
      have rc:=kD L (i + 2) h4
      have hd3:L.drop (i + 2) = L[i + 2] :: L.drop (i + 3):=List.drop_eq_getElem_cons h4
      generalize L[i + 2] = c at hc1 rc hd3
      have wc:wrap64 c = c:=wrap64_in (by omega)
      have wabc:wrap64 (a * 65536 + b * 256 + c) = a * 65536 + b * 256 + c:=wrap64_in (by omega)
      refine ⟨bz.four 3 (a * 65536 + b * 256 + c),?_,rfl,?_⟩
      · have:=bz.xG L [a,b,c] i a b c hall (by rw [hd,hd2,hd3];rfl) (.inr (.inr rfl))
        simpa using this
      · conv=>lhs;unfold bW.l0
        rw [if_pos h1,if_pos h2,w1,if_pos (by omega),if_pos (by omega),ra,rb,wa,wb,wa2,wb2,wab]
        unfold bW.j1
        rw [w2,if_pos (by omega),if_pos (by omega),rc,wc,wabc]
        exact bW.vV k L x3 i 3 (a * 65536 + b * 256 + c) hb hi (by omega) (by omega) hx
    · refine ⟨bz.four 2 (a * 65536 + b * 256 + 0),?_,rfl,?_⟩
      · have hd3:L.drop (i + 2) = []:=List.drop_eq_nil_of_le (by omega)
        have:=bz.xG L [a,b] i a b 0 hall (by rw [hd,hd2,hd3];rfl) (.inr (.inl ⟨rfl,rfl⟩))
        simpa using this
      · conv=>lhs;unfold bW.l0
        rw [if_pos h1,if_pos h2,w1,if_pos (by omega),if_pos (by omega),ra,rb,wa,wb,wa2,wb2,wab]
        unfold bW.j1
        rw [w2,if_neg (by omega),Int.add_zero]
        exact bW.vV k L x3 i 2 (a * 65536 + b * 256) hb hi (by omega) (by omega) hx
  · refine ⟨bz.four 1 (a * 65536 + 0 * 256 + 0),?_,rfl,?_⟩
    · have hd3:L.drop (i + 1) = []:=List.drop_eq_nil_of_le (by omega)
      have:=bz.xG L [a] i a 0 0 hall (by rw [hd,hd3];rfl) (.inl ⟨rfl,rfl,rfl⟩)
      simpa using this
    · conv=>lhs;unfold bW.l0
      rw [if_pos h1,if_pos h2,w1,if_neg (by omega),ra,wa,wa2]
      unfold bW.j1
      rw [w2,if_neg (by omega),show a * 65536 + 0 * 256 + 0 = a * 65536 by omega]
      exact bW.vV k L x3 i 1 (a * 65536) hb hi (by omega) (by omega) hx
theorem bW.bY (L:List Int) (hb:L.length ≤ 1048576) (hB:∀ x ∈ L,0 ≤ x ∧ x ≤ 255):∀ (n k i:Nat) (x3:List Int),L.length ≤ i + n → L.length + 3 ≤ k + i → i ≤ L.length + 2 → x3.length ≤ 2 * i → bW.l0 k L x3 (i:Int) = some (strOfNums (x3 ++ bz.q (L.drop i))):=by
  intro n
  induction n using Nat.strongRecOn with
  | _ n ih =>
    intro k i x3 hn hk hi hx
    by_cases h:i < L.length
    · obtain ⟨k,rfl⟩ : ∃ m,k = m + 3:=⟨k - 3,by omega⟩
      obtain ⟨four,h1,h2,h3⟩:=bW.one k L x3 i hb hB h (by omega)
      rw [h3,h1]
      rw [ih (n - 1) (by omega) k (i + 3) (x3 ++ four) (by omega) (by omega) (by omega) (by simp;omega),List.append_assoc]
    · obtain ⟨k,rfl⟩ : ∃ m,k = m + 1:=⟨k - 1,by omega⟩
      have h1:¬ ((i:Int) < (L.length:Int)):=by omega
      unfold bW.l0
      rw [if_neg h1,List.drop_eq_nil_of_le (by omega)]
      simp [bz.q]
theorem AV (L:List Int) (k:Nat) (hb:L.length ≤ 1048576) (hB:∀ x ∈ L,0 ≤ x ∧ x ≤ 255) (hk:L.length + 3 ≤ k):bW.f k L = some (strOfNums (bz.q L)):=by
  unfold bW.f
  have:=bW.bY L hb hB L.length k 0 [] (by omega) (by omega) (by omega) (by simp)
  simpa using this
theorem Dp:∀ n:Fin 64,43 ≤ bz.dg (n.val:Int) ∧ bz.dg (n.val:Int) ≤ 122 ∧ bz.dg (n.val:Int) ≠ 63:=by decide +kernel
theorem nG (n:Int) (h:0 ≤ n ∧ n < 64):43 ≤ bz.dg n ∧ bz.dg n ≤ 122 ∧ bz.dg n ≠ 63:=by
  have:=Dp ⟨n.toNat,by omega⟩
  rw [show ((⟨n.toNat,by omega⟩ : Fin 64).val:Int) = n from Int.toNat_of_nonneg h.1] at this
  exact this
theorem GG:∀ (n:Nat) (L:List Int),L.length ≤ n → (∀ x ∈ L,0 ≤ x ∧ x ≤ 255) → ∀ y ∈ bz.q L,43 ≤ y ∧ y ≤ 122 ∧ y ≠ 63:=by
  intro n
  induction n using Nat.strongRecOn with
  | _ n ih =>
    intro L hn hb y hy
    match L,hn,hb,hy with
    | [],_,_,hy=>simp [bz.q] at hy
    | [a],_,hb,hy =>
      have ha:=hb a (by simp)
      simp only [bz.q,List.mem_cons,List.not_mem_nil,or_false] at hy
      rcases hy with rfl | rfl | rfl | rfl
      · exact nG _ (by omega)
      · exact nG _ (by omega)
      · decide
      · decide
    | [a,b],_,hb,hy =>
      have ha:=hb a (by simp)
      have hb2:=hb b (by simp)
      simp only [bz.q,List.mem_cons,List.not_mem_nil,or_false] at hy
      rcases hy with rfl | rfl | rfl | rfl
      · exact nG _ (by omega)
      · exact nG _ (by omega)
      · exact nG _ (by omega)
      · decide
    | a :: b :: c :: r,hn,hb,hy =>
      simp only [List.length_cons] at hn
      have ha:=hb a (by simp)
      have hb2:=hb b (by simp)
      have hc:=hb c (by simp)
      simp only [bz.q,List.mem_cons] at hy
      rcases hy with rfl | rfl | rfl | rfl | hy
      · exact nG _ (by omega)
      · exact nG _ (by omega)
      · exact nG _ (by omega)
      · exact nG _ (by omega)
      · exact ih r.length (by omega) r (Nat.le_refl _) (fun x hx=>hb x (by simp [hx])) y hy
def hx (n:Int):Int:=bt (⟨#[48,49,50,51,52,53,54,55,56,57,65,66,67,68,69,70]⟩ : ByteArray) n
def wH (b:Int) (rest:List Int):Bool:=(decide (33 ≤ b ∧ b ≤ 126) && b != 61) || b == 10 || ((b == 32 || b == 9) && match rest with | []=>false | c :: _=>c != 10)
def qs:List Int → List Int
  | []=>[]
  | b :: rest=>if wH b rest = true then b :: qs rest else 61 :: hx (b / 16) :: hx (b % 16) :: qs rest
theorem zo:∀ l,(qs l).length ≤ 3 * l.length
  | []=>by simp [qs]
  | b :: rest=>by
    have:=zo rest
    unfold qs
    split <;> simp <;> omega
theorem zO (n:Int) (h:0 ≤ n ∧ n < 16):mV.f n = some (hx n):=by
  unfold mV.f hx
  rw [if_pos h.1,if_pos h.2]
theorem dA.tC (k:Nat) (L x3:List Int) (i b:Int) (x6:Bool):dA.j1 (k + 1) L x3 i b x6 = dA.j2 k L x3 i b ((decide (33 ≤ b ∧ b ≤ 126) && b != 61) || b == 10 || x6):=by
  unfold dA.j1
  by_cases h1:b ≥ 33
  · rw [if_pos h1]
    by_cases h2:b ≤ 126
    · rw [if_pos h2]
      by_cases h3:b = 61
      · subst h3
        rw [if_pos rfl,if_neg (by decide)]
        rfl
      · have h4:(b != 61) = true:=by simpa using h3
        rw [if_neg h3,h4,decide_eq_true (⟨h1,h2⟩ : 33 ≤ b ∧ b ≤ 126)]
        rfl
    · have h3:b ≠ 10:=by omega
      have h4:(b == 10) = false:=by simpa using h3
      rw [if_neg h2,if_neg h3,h4,decide_eq_false (by omega:¬ (33 ≤ b ∧ b ≤ 126))]
      simp
  · rw [if_neg h1,decide_eq_false (by omega:¬ (33 ≤ b ∧ b ≤ 126))]
    by_cases h3:b = 10
    · subst h3
      rw [if_pos rfl]
      rfl
    · have h4:(b == 10) = false:=by simpa using h3
      rw [if_neg h3,h4]
      simp
theorem dA.bY (L:List Int) (hb:L.length ≤ 1048576) (hB:∀ x ∈ L,0 ≤ x ∧ x ≤ 255):∀ (n k i:Nat) (x3:List Int),L.length = i + n → 3 * n < k → x3.length + 3 * n < 140737488355328 → dA.l0 k L x3 (i:Int) = some (strOfNums (x3 ++ qs (L.drop i)))
  | 0,0,_,_,_,h,_=>absurd h (by omega)
  | 0,k + 1,i,x3,hi,_,_=>by
    have h1:¬ ((i:Int) < (L.length:Int)):=by omega
    unfold dA.l0
    rw [if_neg h1,List.drop_eq_nil_of_le (by omega)]
    simp [qs]
  | n + 1,0,_,_,_,h,_=>absurd h (by omega)
  | n + 1,1,_,_,_,h,_=>absurd h (by omega)
  | n + 1,2,_,_,_,h,_=>absurd h (by omega)
  | n + 1,k + 3,i,x3,hi,h,hx3=>by
    have h1:(i:Int) < (L.length:Int):=by omega
    have h2:(0:Int) ≤ (i:Int):=by omega
    have h4:wrap64 ((i:Int) + 1) = ((i + 1:Nat):Int):=by rw [wrap64_in (by omega)];omega
    have hlt:i < L.length:=by omega
    have hbb:=hB L[i] (List.getElem_mem hlt)
    have ih:=fun x=>dA.bY L hb hB n k (i + 1) x (by omega) (by omega)
    have hd:L.drop i = L[i] :: L.drop (i + 1):=List.drop_eq_getElem_cons hlt
    have hrd:rd L (i:Int) = L[i]:=kD L i hlt
    have hj:dA.l0 (k + 3) L x3 (i:Int) = dA.j1 (k + 2) L x3 i L[i] ((L[i] == 32 || L[i] == 9) && match L.drop (i + 1) with | []=>false | c :: _=>c != 10):=by
      conv=>lhs;unfold dA.l0
      rw [if_pos h1,if_pos h2,hrd,h4]
      by_cases h6:i + 1 < L.length
      · have hd2:L.drop (i + 1) = L[i + 1] :: L.drop (i + 1 + 1):=List.drop_eq_getElem_cons h6
        have hrd2:rd L ((i + 1:Nat):Int) = L[i + 1]:=kD L (i + 1) h6
        rw [hd2,hrd2,if_pos (by omega:((i + 1:Nat):Int) < (L.length:Int)),if_pos (by omega:(0:Int) ≤ ((i + 1:Nat):Int))]
        generalize L[i + 1] = c
        generalize L[i] = b
        by_cases h7:b = 32
        · subst h7;rw [if_pos rfl];rfl
        · rw [if_neg h7]
          by_cases h8:b = 9
          · subst h8;rw [if_pos rfl];rfl
          · have h9:(b == 32) = false:=by simpa using h7
            have h10:(b == 9) = false:=by simpa using h8
            rw [if_neg h8,h9,h10];rfl
      · have hd2:L.drop (i + 1) = []:=List.drop_eq_nil_of_le (by omega)
        rw [hd2,if_neg (by omega:¬ ((i + 1:Nat):Int) < (L.length:Int))]
        generalize L[i] = b
        simp
    rw [hj,dA.tC,hd]
    have hk:((decide (33 ≤ L[i] ∧ L[i] ≤ 126) && L[i] != 61) || L[i] == 10 || ((L[i] == 32 || L[i] == 9) && match L.drop (i + 1) with | []=>false | c :: _=>c != 10)) = wH L[i] (L.drop (i + 1)):=rfl
    rw [hk]
    unfold qs
    generalize L[i] = b at hbb
    cases wH b (L.drop (i + 1)) with
    | true =>
      unfold dA.j2
      rw [if_pos rfl,if_pos rfl,if_pos (by omega),h4,ih _ (by simp;omega)]
      simp
    | false =>
      have ht:Int.tdiv b 16 % 256 = b / 16:=by rw [Int.tdiv_eq_ediv_of_nonneg hbb.1];omega
      have hm:Int.tmod b 16 = b % 16:=Int.tmod_eq_emod_of_nonneg hbb.1
      unfold dA.j2
      rw [if_neg (by decide),if_neg (by decide),ht,hm,zO _ (by omega),zO _ (by omega)]
      simp only [Option.bind_some]
      rw [if_pos (by simp;omega),h4,ih _ (by simp;omega)]
      simp
theorem DJ (L:List Int) (k:Nat) (hb:L.length ≤ 1048576) (hB:∀ x ∈ L,0 ≤ x ∧ x ≤ 255) (hk:3 * L.length < k):dA.f k L = some (strOfNums (qs L)):=by
  unfold dA.f
  have:=dA.bY L hb hB L.length k 0 [] (by omega) hk (by simp;omega)
  simpa using this
theorem byte_wf {l:List Int} (h:∀ x ∈ l,(Lit.int .u8 x).wf = true):∀ x ∈ l,0 ≤ x ∧ x ≤ 255:=by
  intro x hx
  have h1:=h x hx
  unfold Lit.wf at h1
  rw [Bool.and_eq_true,decide_eq_true_eq,decide_eq_true_eq,show IntKind.u8.min = 0 from by decide,show IntKind.u8.max = 255 from by decide] at h1
  exact h1
theorem xX {l:List Int} (h:∀ x ∈ l,0 ≤ x ∧ x ≤ 255) (j:Int):0 ≤ rd l j ∧ rd l j ≤ 255:=by
  unfold rd
  rw [List.getD_eq_getElem?_getD]
  cases hg:l[j.toNat]? with
  | none=>simp
  | some v =>
    have:=h v (List.mem_of_getElem? hg)
    simpa using this
theorem tmod_in (x n:Int) (hx:0 ≤ x) (hn:1 ≤ n):0 ≤ Int.tmod x n ∧ Int.tmod x n < n:=
  ⟨Int.tmod_nonneg _ hx,Int.tmod_lt_of_pos _ (by omega)⟩
theorem lH (l:List Int) (hB:∀ x ∈ l,0 ≤ x ∧ x ≤ 255) (hl:l.length ≤ 1048576) (i n:Int) (hi:0 ≤ i ∧ i ≤ 4294967296) (hn:1 ≤ n):∃ v,dC.f l i n = some (v,i + 1) ∧ 0 ≤ v ∧ v < n:=by
  unfold dC.f
  have a1:wrap64 (i + 1) = i + 1:=wrap64_in (by omega)
  have a2:wrap64 (i + 1 - 1) = i:=by rw [show i + 1 - 1 = i by omega];exact wrap64_in (by omega)
  rw [a1,a2,if_neg (by omega)]
  by_cases h0:(l.length:Int) = 0
  · have a3:wrap64 (i * 7) = i * 7:=wrap64_in (by omega)
    rw [if_pos h0,if_neg (by omega),a3]
    exact ⟨_,rfl,tmod_in _ _ (by omega) hn⟩
  · rw [if_neg h0]
    have h1:=tmod_in i (l.length:Int) hi.1 (by omega)
    rw [if_pos h1.1,if_pos h1.2]
    have hd:0 ≤ Int.tdiv i (l.length:Int) ∧ Int.tdiv i (l.length:Int) ≤ i:=by
      rw [Int.tdiv_eq_ediv_of_nonneg hi.1]
      exact ⟨Int.ediv_nonneg hi.1 (by omega),Int.ediv_le_self _ hi.1⟩
    have hr1:=xX hB (Int.tmod i (l.length:Int))
    generalize rd l (Int.tmod i (l.length:Int)) = r1 at hr1
    generalize Int.tdiv i (l.length:Int) = q at hd
    have b0:wrap64 r1 = r1:=wrap64_in (by omega)
    have b1:wrap64 q = q:=wrap64_in (by omega)
    have b2:wrap64 (q * 37) = q * 37:=wrap64_in (by omega)
    have b3:wrap64 (r1 + q * 37) = r1 + q * 37:=wrap64_in (by omega)
    rw [b0,b1,b2,b3]
    by_cases h2:n > 200
    · rw [if_pos h2,a1]
      have h3:=tmod_in (i + 1) (l.length:Int) (by omega) (by omega)
      rw [if_pos h3.1,if_pos h3.2,if_neg (by omega)]
      have hr2:=xX hB (Int.tmod (i + 1) (l.length:Int))
      generalize rd l (Int.tmod (i + 1) (l.length:Int)) = r2 at hr2
      have c0:wrap64 r2 = r2:=wrap64_in (by omega)
      have c1:wrap64 ((r1 + q * 37) * 251) = (r1 + q * 37) * 251:=wrap64_in (by omega)
      have c2:wrap64 (r2 * 13) = r2 * 13:=wrap64_in (by omega)
      have c3:wrap64 ((r1 + q * 37) * 251 + r2 * 13) = (r1 + q * 37) * 251 + r2 * 13:=wrap64_in (by omega)
      have c4:wrap64 ((r1 + q * 37) * 251 + r2 * 13 + i) = (r1 + q * 37) * 251 + r2 * 13 + i:=wrap64_in (by omega)
      rw [c0,c1,c2,c3,c4]
      exact ⟨_,rfl,tmod_in _ _ (by omega) hn⟩
    · rw [if_neg h2,if_neg (by omega)]
      exact ⟨_,rfl,tmod_in _ _ (by omega) hn⟩
theorem vz (l:List Int) (hB:∀ x ∈ l,0 ≤ x ∧ x ≤ 255) (hl:l.length ≤ 1048576) (i:Int) (hi:0 ≤ i ∧ i ≤ 4294967296) (L:List Int) (hL:1 ≤ L.length):∃ j:Nat,j < L.length ∧ kC.f l i L = some (rd L (j:Int),i + 1):=by
  obtain ⟨v,hv,h0,h1⟩:=lH l hB hl i (L.length:Int) hi (by omega)
  unfold kC.f
  rw [hv,Option.bind_some]
  refine ⟨v.toNat,by omega,?_⟩
  rw [Int.toNat_of_nonneg h0]
  simp only
  rw [if_pos h0,if_pos h1]
theorem iy.bY (l:List Int) (hB:∀ x ∈ l,0 ≤ x ∧ x ≤ 255) (hl:l.length ≤ 1048576):∀ (n k:Nat) (acc:List Int) (i:Int),n < k → (0 ≤ i ∧ i + n ≤ 4294967296) → acc.length + n ≤ 1000 → (∀ x ∈ acc,x ∈ ([97,66,32,228,1078,1046,8470,167,8364,127,160,1037]:List Int)) → ∃ out,iy.l0 k acc (n:Int) l i = some (out,i + n) ∧ out.length = acc.length + n ∧ ∀ x ∈ out,x ∈ ([97,66,32,228,1078,1046,8470,167,8364,127,160,1037]:List Int)
  | _,0,_,_,h,_,_,_=>absurd h (by omega)
  | 0,k + 1,acc,i,_,hi,ha,hx=>by
    unfold iy.l0
    rw [if_neg (by omega)]
    exact ⟨acc,by simp,by simp,hx⟩
  | n + 1,k + 1,acc,i,h,hi,ha,hx=>by
    obtain ⟨j,hj,hp⟩:=vz l hB hl i (by omega) ([97,66,32,228,1078,1046,8470,167,8364,127,160,1037]:List Int) (by decide)
    have hw:wrap64 (((n + 1:Nat):Int) - 1) = (n:Int):=by rw [wrap64_in (by omega)];omega
    have hm:rd [97,66,32,228,1078,1046,8470,167,8364,127,160,1037] (j:Int) ∈ ([97,66,32,228,1078,1046,8470,167,8364,127,160,1037]:List Int):=by
      rw [kD _ j hj]
      exact List.getElem_mem hj
    unfold iy.l0
    rw [if_pos (by omega),hp,Option.bind_some,if_pos (by omega),hw]
    simp only
    generalize rd [97,66,32,228,1078,1046,8470,167,8364,127,160,1037] (j:Int) = y at hm
    obtain ⟨out,ho,hlen,hb⟩:=iy.bY l hB hl n k (acc ++ [y]) (i + 1) (by omega) (by omega) (by simp;omega) (by
      intro x hx'
      rcases List.mem_append.1 hx' with h' | h'
      · exact hx x h'
      · rw [List.mem_singleton.1 h'];exact hm)
    refine ⟨out,?_,by simp at hlen;omega,hb⟩
    rw [ho]
    congr 2
    omega
theorem DC (l:List Int) (hB:∀ x ∈ l,0 ≤ x ∧ x ≤ 255) (hl:l.length ≤ 1048576) (k:Nat) (i:Int) (hk:8 ≤ k) (hi:0 ≤ i ∧ i ≤ 1000000):∃ out j,iy.f k l i = some (out,j) ∧ out.length ≤ 5 ∧ (∀ x ∈ out,x ∈ ([97,66,32,228,1078,1046,8470,167,8364,127,160,1037]:List Int)) ∧ i ≤ j ∧ j ≤ i + 6:=by
  obtain ⟨v,hv,h0,h1⟩:=lH l hB hl i 6 (by omega) (by omega)
  obtain ⟨n,rfl⟩:=Int.eq_ofNat_of_zero_le h0
  obtain ⟨out,ho,hlen,hm⟩:=iy.bY l hB hl n k [] (i + 1) (by omega) (by omega) (by simp;omega) (by simp)
  unfold iy.f
  rw [hv,Option.bind_some]
  exact ⟨out,_,ho,by simp at hlen;omega,hm,by omega,by omega⟩
theorem gJ.bY (l:List Int) (hB:∀ x ∈ l,0 ≤ x ∧ x ≤ 255) (hl:l.length ≤ 1048576):∀ (n k:Nat) (acc:List Int) (i:Int),n < k → (0 ≤ i ∧ i + 2 * n ≤ 4294967296) → acc.length + n ≤ 1000 → (∀ x ∈ acc,0 ≤ x ∧ x ≤ 255) → ∃ out,gJ.l0 k (n:Int) acc l i = some (out,i + 2 * n) ∧ out.length = acc.length + n ∧ ∀ x ∈ out,0 ≤ x ∧ x ≤ 255
  | _,0,_,_,h,_,_,_=>absurd h (by omega)
  | 0,k + 1,acc,i,_,hi,ha,hx=>by
    unfold gJ.l0
    rw [if_neg (by omega)]
    exact ⟨acc,by simp,by simp,hx⟩
  | n + 1,k + 1,acc,i,h,hi,ha,hx=>by
    obtain ⟨v,hv,h0,h1⟩:=lH l hB hl i 256 (by omega) (by omega)
    obtain ⟨j,hj,hp⟩:=vz l hB hl (i + 1) (by omega) ([v,97,32,10,61,122]:List Int) (by simp)
    have hw:wrap64 (((n + 1:Nat):Int) - 1) = (n:Int):=by rw [wrap64_in (by omega)];omega
    unfold gJ.l0
    rw [if_pos (by omega),hv,Option.bind_some,hp,Option.bind_some,if_pos (by omega),hw]
    generalize rd [v,97,32,10,61,122] (j:Int) = y
    obtain ⟨out,ho,hlen,hb⟩:=gJ.bY l hB hl n k (acc ++ [y % 256]) (i + 1 + 1) (by omega) (by omega) (by simp;omega) (by
      intro x hx'
      rcases List.mem_append.1 hx' with h' | h'
      · exact hx x h'
      · rw [List.mem_singleton.1 h'];omega)
    refine ⟨out,?_,by simp at hlen;omega,hb⟩
    rw [ho]
    congr 2
    omega
theorem Gg (l:List Int) (hB:∀ x ∈ l,0 ≤ x ∧ x ≤ 255) (hl:l.length ≤ 1048576) (n k:Nat) (i:Int) (hk:n < k) (hi:0 ≤ i ∧ i + 2 * n ≤ 4294967296) (hn:n ≤ 1000):∃ out,gJ.f k l i (n:Int) = some (out,i + 2 * n) ∧ out.length = n ∧ ∀ x ∈ out,0 ≤ x ∧ x ≤ 255:=by
  obtain ⟨out,h1,h2,h3⟩:=gJ.bY l hB hl n k [] i hk hi (by simpa using hn) (by simp)
  exact ⟨out,h1,by simpa using h2,h3⟩
theorem ER (T:ByteArray) (h:T.size ≤ 400):((⟨#[83,117,98,106,101,99,116,58,32]⟩ : ByteArray) ++ T).size = 9 + T.size ∧ (((⟨#[83,117,98,106,101,99,116,58,32]⟩ : ByteArray) ++ T) ++ (⟨#[10,10]⟩ : ByteArray)).size = 11 + T.size:=by
  have h1:((⟨#[83,117,98,106,101,99,116,58,32]⟩ : ByteArray) ++ T).size = 9 + T.size:=by rw [ByteArray.size_append];rfl
  refine ⟨h1,?_⟩
  rw [ByteArray.size_append,h1]
  show 9 + T.size + 2 = _
  omega
theorem tq (a b:ByteArray):bytesOf (a ++ b) = bytesOf a ++ bytesOf b:=by
  unfold bytesOf
  rw [ByteArray.data_append,Array.toList_append,List.map_append]
theorem DV (codes:List Int) (hc:codes.length ≤ 5) (k:Nat) (hk:200 < k):∃ t c,oK.f k codes = some (t,c) ∧ t.size ≤ 400 ∧ ∀ x ∈ bytesOf t,x ≠ 10:=by
  have he:=fM.bY 4 (by omega) codes (by omega) codes.length k 0 [] (by omega) (by omega) (by simp;omega)
  rw [List.drop_zero] at he
  have he':fM.l0 k 4 codes [] 0 = some (lQ 4 [] codes):=he
  have hfl:=wZ 4 codes
  unfold oK.f fM.f
  rw [he',Option.bind_some]
  unfold lQ
  by_cases c:codes.all (hasB 4) = true
  · rw [if_pos c,List.nil_append,if_neg (show ¬ 400 < (codes.flatMap (jQ 4)).length by omega)]
    simp only
    rw [if_pos (by first | rfl | trivial),Dy codes (by omega) k (by omega),Option.bind_some]
    by_cases d:(codes.all oz && !(nC codes)) = true
    · rw [if_pos d]
      rw [Bool.and_eq_true] at d
      have e:=yB codes d.1
      have hr:∀ x ∈ codes,32 ≤ x ∧ x ≤ 126:=fun x hx=>of_decide_eq_true (List.all_eq_true.1 d.1 x hx)
      rw [e]
      refine ⟨_,_,rfl,by rw [strOfNums_size];omega,fun x hx=>?_⟩
      rw [sU codes (fun x hx=>by have:=hr x hx;omega)] at hx
      have:=hr x hx
      omega
    · rw [if_neg d]
      have hF:=AY 4 codes
      generalize codes.flatMap (jQ 4) = F at hF hfl
      have hq:=q_len F.length F (Nat.le_refl _)
      have hp:=GG F.length F (Nat.le_refl _) hF
      rw [AV F k (by omega) hF (by omega),Option.bind_some]
      have s1:((⟨#[61,63,117,116,102,45,56,63,66,63]⟩ : ByteArray) ++ strOfNums (bz.q F)).size = 10 + (bz.q F).length:=by rw [ByteArray.size_append,strOfNums_size];rfl
      have s2:(((⟨#[61,63,117,116,102,45,56,63,66,63]⟩ : ByteArray) ++ strOfNums (bz.q F)) ++ (⟨#[63,61]⟩ : ByteArray)).size = 12 + (bz.q F).length:=by
        rw [ByteArray.size_append,s1]
        show 10 + (bz.q F).length + 2 = _
        omega
      rw [strOfNums_size,if_pos (by omega),s1,if_pos (by omega),s2,if_neg (by omega)]
      refine ⟨_,_,rfl,by rw [s2];omega,fun x hx=>?_⟩
      rw [tq,tq,sU _ (fun x hx=>by have:=hp x hx;omega)] at hx
      rcases List.mem_append.1 hx with g | g
      · rcases List.mem_append.1 g with g | g
        · exact (by decide:∀ x ∈ ([61,63,117,116,102,45,56,63,66,63]:List Int),x ≠ 10) x g
        · have:=hp x g;omega
      · exact (by decide:∀ x ∈ ([63,61]:List Int),x ≠ 10) x g
  · rw [if_neg c]
    simp only
    rw [if_neg (by decide)]
    exact ⟨_,_,rfl,by decide,fun x hx=>absurd hx (by simp [bytesOf])⟩
def hB0:List Int:=[67,111,110,116,101,110,116,45,84,114,97,110,115,102,101,114,45,69,110,99,111,100,105,110,103,58,32,98,97,115,101,54,52,10,10]
def BZ:List Int:=[67,111,110,116,101,110,116,45,84,121,112,101,58,32,116,101,120,116,47,112,108,97,105,110,59,32,99,104,97,114,115,101,116,61,117,116,102,45,56,10,67,111,110,116,101,110,116,45,84,114,97,110,115,102,101,114,45,69,110,99,111,100,105,110,103,58,32,113,117,111,116,101,100,45,112,114,105,110,116,97,98,108,101,10,10]
def hC0:List Int:=[67,111,110,116,101,110,116,45,84,121,112,101,58,32,116,101,120,116,47,112,108,97,105,110,59,32,99,104,97,114,115,101,116,61,105,115,111,45,56,56,53,57,45,53,10,10]
def hI0:List Int:=[67,111,110,116,101,110,116,45,84,121,112,101,58,32,105,109,97,103,101,47,120,10,10]
def hS0:List Int:=[83,117,98,106,101,99,116,58,32]
def CO (out:List Int):Prop:=(∃ r,out = hB0 ++ r) ∨ (∃ r,out = BZ ++ r) ∨ (∃ r,out = hC0 ++ r) ∨ (∃ r,out = hI0 ++ r) ∨ (∃ r,out = 10 :: r) ∨ ∃ T r,(∀ x ∈ T,x ≠ 10 ∧ 0 ≤ x ∧ x ≤ 255) ∧ T.length ≤ 400 ∧ out = hS0 ++ T ++ 10 :: 10 :: r
theorem xu (a:ByteArray):(bytesOf a).length = a.size:=by simp [bytesOf]
theorem lI {A B:List Int} (ha:∀ x ∈ A,0 ≤ x ∧ x ≤ 255) (hb:∀ x ∈ B,0 ≤ x ∧ x ≤ 255):∀ x ∈ A ++ B,0 ≤ x ∧ x ≤ 255:=fun x hx=>(List.mem_append.1 hx).elim (ha x) (hb x)
theorem qK (l:List Int) (hB:∀ x ∈ l,0 ≤ x ∧ x ≤ 255) (hl:l.length ≤ 1048576) (i:Int) (hi:0 ≤ i ∧ i ≤ 100000) (k:Nat) (hk:1000 < k):∃ out j,iO.f k l i = some (out,j) ∧ i ≤ j ∧ j ≤ i + 100 ∧ out.length ≤ 800 ∧ (∀ x ∈ out,0 ≤ x ∧ x ≤ 255) ∧ CO out:=by
  obtain ⟨v,v1,v2,v3⟩:=lH l hB hl i 8 (by omega) (by omega)
  obtain ⟨n,rfl⟩ : ∃ n:Nat,v = (n:Int):=⟨v.toNat,by omega⟩
  obtain ⟨bd,b1,b2,b3⟩:=Gg l hB hl n k (i + 1) (by omega) (by omega) (by omega)
  obtain ⟨w,w1,w2,w3⟩:=lH l hB hl (i + 1 + 2 * n) 6 (by omega) (by omega)
  unfold iO.f
  rw [v1,Option.bind_some]
  simp only
  rw [b1,Option.bind_some]
  simp only
  rw [w1,Option.bind_some]
  simp only
  by_cases c0:w = 0
  · have hq:=q_len bd.length bd (Nat.le_refl _)
    rw [if_pos c0,Option.bind_some,AV bd k (by omega) b3 (by omega),Option.bind_some,strOfNums_size,if_pos (by omega),Option.bind_some]
    have hln:(bytesOf (strOfNums (bz.q bd))).length = (bz.q bd).length:=by rw [xu,strOfNums_size]
    have hin:=nJ (strOfNums (bz.q bd))
    generalize bytesOf (strOfNums (bz.q bd)) = X at hln hin
    rw [if_pos (by simp;omega)]
    exact ⟨_,_,rfl,by omega,by omega,by simp;omega,lI (by decide) hin,.inl ⟨X,rfl⟩⟩
  rw [if_neg c0]
  by_cases c1:w = 1
  · have hq:=zo bd
    rw [if_pos c1,Option.bind_some,DJ bd k (by omega) b3 (by omega),Option.bind_some,strOfNums_size,if_pos (by omega),Option.bind_some]
    have hln:(bytesOf (strOfNums (qs bd))).length = (qs bd).length:=by rw [xu,strOfNums_size]
    have hin:=nJ (strOfNums (qs bd))
    generalize bytesOf (strOfNums (qs bd)) = X at hln hin
    rw [if_pos (by simp;omega)]
    exact ⟨_,_,rfl,by omega,by omega,by simp;omega,lI (by decide) hin,.inr (.inl ⟨X,rfl⟩)⟩
  rw [if_neg c1]
  by_cases c2:w = 2
  · have he:=fM.bY 3 (by omega) [1078,1046,97] (by simp) 3 k 0 [] (by simp) (by omega) (by simp)
    rw [List.drop_zero] at he
    have he':fM.f k 3 [1078,1046,97] = some (lQ 3 [] [1078,1046,97]):=he
    have hx:(lQ 3 [] [1078,1046,97]).1.length ≤ 9 ∧ ∀ x ∈ (lQ 3 [] [1078,1046,97]).1,0 ≤ x ∧ x ≤ 255:=by
      have hf:=wZ 3 [1078,1046,97]
      have hb:=AY 3 [1078,1046,97]
      unfold lQ
      rw [List.nil_append]
      split
      · split
        · exact ⟨by simp,fun x hx=>by simp at hx⟩
        · exact ⟨by simpa using hf,hb⟩
      · exact ⟨by simp,fun x hx=>by simp at hx⟩
    rw [if_pos c2,he',Option.bind_some,Option.bind_some]
    generalize lQ 3 [] [1078,1046,97] = X at hx
    rw [if_pos (by simp;omega)]
    exact ⟨_,_,rfl,by omega,by omega,by simp;omega,lI (by decide) hx.2,.inr (.inr (.inl ⟨X.1,rfl⟩))⟩
  rw [if_neg c2]
  by_cases c3:w = 3
  · rw [if_pos c3,Option.bind_some,if_pos (by simp;omega)]
    exact ⟨_,_,rfl,by omega,by omega,by simp;omega,lI (by decide) b3,.inr (.inr (.inr (.inl ⟨bd,rfl⟩)))⟩
  rw [if_neg c3]
  by_cases c4:w = 4
  · rw [if_pos c4,Option.bind_some,Option.bind_some,if_pos (by simp)]
    exact ⟨_,_,rfl,by omega,by omega,by simp,by decide,.inr (.inr (.inr (.inr (.inl ⟨_,rfl⟩))))⟩
  rw [if_neg c4]
  obtain ⟨cs,j,z1,z2,z3⟩:=DC l hB hl k (i + 1 + 2 * n + 1) (by omega) (by omega)
  obtain ⟨T,c,t1,t2,t3⟩:=DV cs z2 k (by omega)
  obtain ⟨s1,s2⟩:=ER T t2
  have hj:i + 1 + 2 * n + 1 ≤ j ∧ j ≤ i + 1 + 2 * n + 10:=by omega
  rw [z1,Option.bind_some]
  simp only
  rw [t1,Option.bind_some]
  simp only
  rw [if_pos (by omega),s1,if_pos (by omega),s2,if_pos (by omega),Option.bind_some]
  have hb:bytesOf (((⟨#[83,117,98,106,101,99,116,58,32]⟩ : ByteArray) ++ T) ++ (⟨#[10,10]⟩ : ByteArray)) = hS0 ++ bytesOf T ++ [10,10]:=by rw [tq,tq];rfl
  have hln:=xu T
  have hin:=nJ T
  rw [hb]
  have hL:(hS0 ++ bytesOf T ++ [10,10]).length = T.size + 11:=by simp [hS0];omega
  rw [if_pos (by omega)]
  exact ⟨_,_,rfl,by omega,by omega,by rw [List.length_append,hL];omega,lI (lI (lI (by decide) hin) (by decide)) b3,.inr (.inr (.inr (.inr (.inr ⟨bytesOf T,bd,fun x hx=>⟨t3 x hx,hin x hx⟩,by omega,by simp⟩))))⟩
theorem Fg (l:List (List Int)) (i:Nat) (h:i < l.length):iJ l (i:Int) = l[i]:=by
  simp [iJ,List.getD_eq_getElem?_getD,h]
def je (l:List (List Int)):Nat:=(l.map List.length).sum
theorem Di (l:List (List Int)) (i:Nat) (h:i < l.length):je (l.drop i) = l[i].length + je (l.drop (i + 1)):=by
  unfold je
  rw [List.drop_eq_getElem_cons h,List.map_cons,List.sum_cons]
def nK (a:ByteArray):List Int:=bytesOf (((⟨#[45,45]⟩ : ByteArray) ++ a) ++ (⟨#[10]⟩ : ByteArray))
def rM (a:ByteArray):List Int:=bytesOf (((⟨#[45,45]⟩ : ByteArray) ++ a) ++ (⟨#[45,45,10]⟩ : ByteArray))
def lU (a:ByteArray):List (List Int) → List Int → List Int
  | [],acc=>acc ++ rM a
  | x :: r,acc=>lU a r (((acc ++ nK a) ++ x) ++ [10])
theorem tY (a:ByteArray):(bytesOf a).length = a.size:=by simp [bytesOf]
theorem Af (a:ByteArray):(((⟨#[45,45]⟩ : ByteArray) ++ a) ++ (⟨#[10]⟩ : ByteArray)).size = a.size + 3:=by
  rw [ByteArray.size_append,ByteArray.size_append,show (⟨#[45,45]⟩ : ByteArray).size = 2 from rfl,show (⟨#[10]⟩ : ByteArray).size = 1 from rfl];omega
theorem Ad (a:ByteArray):(((⟨#[45,45]⟩ : ByteArray) ++ a) ++ (⟨#[45,45,10]⟩ : ByteArray)).size = a.size + 5:=by
  rw [ByteArray.size_append,ByteArray.size_append,show (⟨#[45,45]⟩ : ByteArray).size = 2 from rfl,show (⟨#[45,45,10]⟩ : ByteArray).size = 3 from rfl];omega
theorem zl (a:ByteArray):((⟨#[45,45]⟩ : ByteArray) ++ a).size = a.size + 2:=by
  rw [ByteArray.size_append,show (⟨#[45,45]⟩ : ByteArray).size = 2 from rfl];omega
theorem rE (a:ByteArray):(nK a).length = a.size + 3:=by rw [nK,tY,Af]
theorem xR (a:ByteArray):(rM a).length = a.size + 5:=by rw [rM,tY,Ad]
theorem dN.bY (a:ByteArray) (ha:a.size ≤ 1048576) (l:List (List Int)) (hl:l.length ≤ 1048576):∀ (n k i:Nat) (acc:List Int),l.length = i + n → n < k → acc.length + je (l.drop i) + (n + 1) * 2000000 ≤ 17592186044416 → dN.l0 k a l acc (i:Int) = some (lU a (l.drop i) acc)
  | _,0,_,_,_,h,_=>absurd h (by omega)
  | 0,k + 1,i,acc,hi,_,hb=>by
    rw [dN.l0,if_neg (by omega),if_pos (by omega),zl,if_pos (by omega),Ad,if_pos (by omega),Option.bind_some,List.drop_eq_nil_of_le (by omega),lU]
    show (if acc.length + (rM a).length < 140737488355328 then some (acc ++ rM a) else none) = _
    rw [xR,if_pos (by omega)]
  | n + 1,k + 1,i,acc,hi,h,hb=>by
    have hlt:i < l.length:=by omega
    have w1:wrap64 ((i:Int) + 1) = ((i + 1:Nat):Int):=by rw [wrap64_in (by omega)];omega
    have hd:=Di l i hlt
    have e1:((acc ++ nK a) ++ l[i] ++ [10]).length = acc.length + (a.size + 3) + l[i].length + 1:=by simp [rE];omega
    have e2:(acc ++ nK a).length = acc.length + (a.size + 3):=by simp [rE]
    have e3:((acc ++ nK a) ++ l[i]).length = acc.length + (a.size + 3) + l[i].length:=by simp [rE];omega
    have ih:=dN.bY a ha l hl n k (i + 1) (((acc ++ nK a) ++ l[i]) ++ [10]) (by omega) (by omega) (by rw [e1];omega)
    rw [dN.l0,if_pos (by omega),if_pos (by omega),zl,if_pos (by omega),Af,if_pos (by omega),Option.bind_some,Fg l i hlt,w1]
    show (if acc.length + (nK a).length < 140737488355328 then (some (acc ++ nK a)).bind fun y113=>(if (0:Int) ≤ (i:Int) then (if y113.length + l[i].length < 140737488355328 then ((some (y113 ++ l[i]:List Int)).bind fun y117=>((some (([10]:List Int):List Int)).bind fun y120=>(if y117.length + y120.length < 140737488355328 then (dN.l0 k a l (y117 ++ y120) ((i + 1:Nat):Int)) else (none)))) else (none)) else (none)) else none) = _
    rw [rE,if_pos (by omega),Option.bind_some,if_pos (by omega),e2,if_pos (by omega),Option.bind_some,Option.bind_some,e3,if_pos (by simp;omega),ih,List.drop_eq_getElem_cons hlt,lU]
def headB (a:ByteArray):List Int:=bytesOf (((⟨#[67,111,110,116,101,110,116,45,84,121,112,101,58,32,109,117,108,116,105,112,97,114,116,47,109,105,120,101,100,59,32,98,111,117,110,100,97,114,121,61]⟩ : ByteArray) ++ a) ++ (⟨#[10,10]⟩ : ByteArray))
theorem AQ (a:ByteArray):((⟨#[67,111,110,116,101,110,116,45,84,121,112,101,58,32,109,117,108,116,105,112,97,114,116,47,109,105,120,101,100,59,32,98,111,117,110,100,97,114,121,61]⟩ : ByteArray) ++ a).size = a.size + 40:=by
  rw [ByteArray.size_append,show (⟨#[67,111,110,116,101,110,116,45,84,121,112,101,58,32,109,117,108,116,105,112,97,114,116,47,109,105,120,101,100,59,32,98,111,117,110,100,97,114,121,61]⟩ : ByteArray).size = 40 from rfl];omega
theorem zJ (a:ByteArray):(((⟨#[67,111,110,116,101,110,116,45,84,121,112,101,58,32,109,117,108,116,105,112,97,114,116,47,109,105,120,101,100,59,32,98,111,117,110,100,97,114,121,61]⟩ : ByteArray) ++ a) ++ (⟨#[10,10]⟩ : ByteArray)).size = a.size + 42:=by
  rw [ByteArray.size_append,AQ,show (⟨#[10,10]⟩ : ByteArray).size = 2 from rfl]
theorem zu (a:ByteArray):(headB a).length = a.size + 42:=by rw [headB,tY,zJ]
theorem DY (a:ByteArray) (ha:a.size ≤ 1048576) (l:List (List Int)) (hl:l.length + je l ≤ 1048576) (k:Nat) (hk:1048576 < k):dN.f k a l = some (lU a l (headB a)):=by
  unfold dN.f
  rw [AQ,zJ,if_pos (by omega),if_pos (by omega),if_pos (by omega)]
  have:=dN.bY a ha l (by omega) l.length k 0 (headB a) (by omega) (by omega) (by rw [List.drop_zero,zu];omega)
  rw [List.drop_zero] at this
  exact this
theorem uY (l:List Int) (hB:∀ x ∈ l,0 ≤ x ∧ x ≤ 255) (hl:l.length ≤ 1048576) (i n:Int) (hi:0 ≤ i ∧ i ≤ 4294967296) (hn:1 ≤ n):∃ b,jv.f l i n = some (b,i + 1):=by
  obtain ⟨v,hv,_,_⟩:=lH l hB hl i n hi hn
  unfold jv.f
  rw [hv]
  exact ⟨_,rfl⟩
theorem Az (a:ByteArray):∀ (l:List (List Int)) (acc:List Int),(lU a l acc).length = acc.length + je l + l.length * (a.size + 4) + a.size + 5
  | [],acc=>by rw [lU,List.length_append,xR];simp [je];omega
  | b :: bs,acc=>by
    have e:je (b :: bs) = b.length + je bs:=by simp [je]
    rw [lU,Az a bs,e]
    simp only [List.length_append,rE,List.length_cons,List.length_nil,Nat.add_mul,Nat.one_mul]
    omega
theorem yj (a:ByteArray):∀ (l:List (List Int)) (acc:List Int),(∀ x ∈ acc,0 ≤ x ∧ x ≤ 255) → (∀ b ∈ l,∀ x ∈ b,0 ≤ x ∧ x ≤ 255) → ∀ x ∈ lU a l acc,0 ≤ x ∧ x ≤ 255
  | [],acc,h,_=>by rw [lU];exact lI h (nJ _)
  | b :: bs,acc,h,hl=>by
    rw [lU]
    exact yj a bs _ (lI (lI (lI h (nJ _)) (hl b (by simp))) (by decide)) (fun b hb=>hl b (by simp [hb]))
theorem Au (a:ByteArray) (ha:a.size ≤ 20) (l:List (List Int)) (hl:l.length ≤ 10) (hs:je l ≤ 100000) (hb:∀ b ∈ l,∀ x ∈ b,0 ≤ x ∧ x ≤ 255) (k:Nat) (hk:1048576 < k):∃ out,dN.f k a l = some out ∧ out.length ≤ je l + 400 ∧ ∀ x ∈ out,0 ≤ x ∧ x ≤ 255:=by
  refine ⟨_,DY a (by omega) l (by omega) k hk,?_,yj a l _ (nJ _) hb⟩
  rw [Az,zu]
  have:l.length * (a.size + 4) ≤ 10 * 24:=Nat.mul_le_mul hl (by omega)
  omega
theorem CW (l:List (List Int)) (b:List Int):je (l ++ [b]) = je l + b.length:=by simp [je]
theorem Ar (l:List Int) (hB:∀ x ∈ l,0 ≤ x ∧ x ≤ 255) (hl:l.length ≤ 1048576):∀ (n k:Nat) (acc:List (List Int)) (i:Int),0 ≤ i ∧ i + 100 * n ≤ 90000 → acc.length + n ≤ 8 → je acc ≤ 800 * acc.length → (∀ b ∈ acc,∀ x ∈ b,0 ≤ x ∧ x ≤ 255) → 1048600 + n < k → ∃ out j,gX.l0 k acc (n:Int) l i = some (out,j) ∧ i ≤ j ∧ j ≤ i + 100 * n + 1000 ∧ out.length ≤ 20000 ∧ ∀ x ∈ out,0 ≤ x ∧ x ≤ 255
  | 0,k,acc,i,hi,hn,hs,hb,hk=>by
    obtain ⟨k,rfl⟩ : ∃ q,k = q + 1:=⟨k - 1,by omega⟩
    obtain ⟨o,o1,o2,o3⟩:=Au (⟨#[98]⟩ : ByteArray) (by decide) acc (by omega) (by omega) hb k (by omega)
    obtain ⟨b,b1⟩:=uY l hB hl i 4 (by omega) (by omega)
    rw [gX.l0,if_neg (by omega),o1,Option.bind_some,b1,Option.bind_some]
    simp only
    cases b with
    | true =>
      obtain ⟨f,j,f1,f2,f3,f4,f5,_⟩:=qK l hB hl (i + 1) (by omega) k (by omega)
      have hs2:je [f,o] = f.length + o.length:=by simp [je]
      obtain ⟨p,p1,p2,p3⟩:=Au (⟨#[99]⟩ : ByteArray) (by decide) [f,o] (by simp) (by omega) (fun b hb2=>by
        rcases List.mem_cons.1 hb2 with rfl | h
        · exact f5
        · obtain rfl:=List.mem_singleton.1 h
          exact o3) k (by omega)
      rw [if_pos rfl,f1,Option.bind_some]
      simp only
      rw [Option.bind_some,p1,Option.bind_some]
      by_cases c:(p.length:Int) > 400
      · obtain ⟨g,q,g1,g2,g3,g4,g5,_⟩:=qK l hB hl j (by omega) k (by omega)
        rw [if_pos c,g1,Option.bind_some]
        exact ⟨g,q,rfl,by omega,by omega,by omega,g5⟩
      · rw [if_neg c]
        exact ⟨p,j,rfl,by omega,by omega,by omega,p3⟩
    | false =>
      rw [if_neg (by decide)]
      by_cases c:(o.length:Int) > 400
      · obtain ⟨g,q,g1,g2,g3,g4,g5,_⟩:=qK l hB hl (i + 1) (by omega) k (by omega)
        rw [if_pos c,g1,Option.bind_some]
        exact ⟨g,q,rfl,by omega,by omega,by omega,g5⟩
      · rw [if_neg c]
        exact ⟨o,i + 1,rfl,by omega,by omega,by omega,o3⟩
  | n + 1,k,acc,i,hi,hn,hs,hb,hk=>by
    obtain ⟨k,rfl⟩ : ∃ q,k = q + 1:=⟨k - 1,by omega⟩
    obtain ⟨f,j,f1,f2,f3,f4,f5,_⟩:=qK l hB hl i (by omega) k (by omega)
    obtain ⟨out,q,e1,e2,e3,e4,e5⟩:=Ar l hB hl n k (acc ++ [f]) j (by omega) (by simp;omega) (by rw [CW];simp;omega) (fun b hb2=>by
      rcases List.mem_append.1 hb2 with h | h
      · exact hb b h
      · obtain rfl:=List.mem_singleton.1 h
        exact f5) (by omega)
    have w:wrap64 (((n + 1:Nat):Int) - 1) = (n:Int):=by rw [wrap64_in (by omega)];omega
    rw [gX.l0,if_pos (by omega),f1,Option.bind_some,if_pos (by omega),w]
    exact ⟨out,q,e1,by omega,by omega,e4,e5⟩
theorem CZ (l:List Int) (hB:∀ x ∈ l,0 ≤ x ∧ x ≤ 255) (hl:l.length ≤ 1048576) (k:Nat) (hk:1048700 < k):∃ out j,gX.f k l 0 = some (out,j) ∧ 0 ≤ j ∧ j ≤ 5000 ∧ out.length ≤ 20000 ∧ ∀ x ∈ out,0 ≤ x ∧ x ≤ 255:=by
  obtain ⟨b,b1⟩:=uY l hB hl 0 3 (by omega) (by omega)
  unfold gX.f
  rw [b1,Option.bind_some]
  simp only
  cases b with
  | true =>
    obtain ⟨f,j,f1,f2,f3,f4,f5,_⟩:=qK l hB hl (0 + 1) (by omega) k (by omega)
    rw [if_pos rfl,f1,Option.bind_some]
    exact ⟨f,j,rfl,by omega,by omega,by omega,f5⟩
  | false =>
    obtain ⟨v,v1,v2,v3⟩:=lH l hB hl (0 + 1) 3 (by omega) (by omega)
    obtain ⟨n,rfl⟩ : ∃ n:Nat,v = (n:Int):=⟨v.toNat,by omega⟩
    obtain ⟨out,q,e1,e2,e3,e4,e5⟩:=Ar l hB hl n k [] (0 + 1 + 1) (by omega) (by simp;omega) (by simp [je]) (by simp) (by omega)
    rw [if_neg (by decide),v1,Option.bind_some]
    exact ⟨out,q,e1,by omega,by omega,e4,e5⟩
theorem EC (l:List Int) (hB:∀ x ∈ l,0 ≤ x ∧ x ≤ 255) (hl:l.length ≤ 1048576) (k:Nat) (hk:1048700 < k):∃ data,mG.f k l = some data ∧ data.length ≤ 1048576 ∧ ∀ x ∈ data,0 ≤ x ∧ x ≤ 255:=by
  obtain ⟨o,i,o1,o2,o3,o4,o5⟩:=CZ l hB hl k hk
  obtain ⟨v,v1,v2,v3⟩:=lH l hB hl i 8 (by omega) (by omega)
  unfold mG.f mP.f qy.f
  rw [Option.bind_some]
  simp only
  rw [o1,Option.bind_some]
  simp only
  rw [v1,Option.bind_some]
  simp only
  by_cases c0:v = 0
  · rw [if_pos c0]
    by_cases c:(o.length:Int) > 0
    · obtain ⟨p,p1,p2,p3⟩:=lH l hB hl (i + 1) o.length (by omega) (by omega)
      obtain ⟨j,j1,j2⟩:=vz l hB hl (i + 1 + 1) (by omega) [10,45,58,98] (by simp)
      rw [if_pos c,p1,Option.bind_some]
      simp only
      rw [j2,Option.bind_some,if_pos p2,if_pos p3,Option.bind_some]
      refine ⟨_,rfl,by rw [List.length_set];omega,fun x hx=>?_⟩
      rcases List.mem_or_eq_of_mem_set hx with h | h
      · exact o5 x h
      · rw [h];omega
    · rw [if_neg c,Option.bind_some]
      exact ⟨_,rfl,by show o.length ≤ 1048576;omega,o5⟩
  rw [if_neg c0]
  by_cases c1:v = 1
  · obtain ⟨p,p1,p2,p3⟩:=lH l hB hl (i + 1) (o.length + 1) (by omega) (by omega)
    rw [if_pos c1,wrap64_in (by omega),p1,Option.bind_some,if_pos p2,if_pos (by show p ≤ (o.length:Int);omega),Option.bind_some]
    exact ⟨_,rfl,by rw [List.length_take];omega,fun x hx=>o5 x (List.mem_of_mem_take hx)⟩
  rw [if_neg c1]
  by_cases c2:v = 2
  · obtain ⟨b,b1⟩:=uY l hB hl (i + 1) 5 (by omega) (by omega)
    rw [if_pos c2,b1,Option.bind_some]
    simp only
    cases b with
    | true =>
      rw [if_pos rfl,if_pos (by omega),Option.bind_some]
      exact ⟨_,rfl,by show (List.replicate 401 (0:Int)).length ≤ _;rw [List.length_replicate];omega,fun x hx=>by rw [List.eq_of_mem_replicate hx];omega⟩
    | false =>
      rw [if_neg (by decide),Option.bind_some]
      exact ⟨_,rfl,by show o.length ≤ 1048576;omega,o5⟩
  rw [if_neg c2,Option.bind_some]
  exact ⟨_,rfl,by show o.length ≤ 1048576;omega,o5⟩
def fst (c:Int):List Int → Option Nat
  | []=>none
  | x :: xs=>if x = c then some 0 else (fst c xs).map (· + 1)
theorem rX (c:Int):∀ (l:List Int) (i:Nat),fst c l = some i → i < l.length
  | [],i,h=>by cases h
  | x :: xs,i,h=>by
    unfold fst at h
    by_cases hx:x = c
    · rw [if_pos hx] at h;cases h;simp
    · rw [if_neg hx] at h
      obtain ⟨j,hj,rfl⟩:=Option.map_eq_some_iff.1 h
      have:=rX c xs j hj
      simp only [List.length_cons]
      omega
theorem AO (x c:Int) (hx:0 ≤ x ∧ x ≤ 255) (hc:0 ≤ c ∧ c ≤ 255):(UInt8.ofNat x.toNat == c.toNat.toUInt8) = decide (x = c):=by
  rw [Bool.eq_iff_iff,beq_iff_eq,decide_eq_true_eq]
  constructor
  · intro h
    have h2:=congrArg UInt8.toNat h
    rw [UInt8.toNat_ofNat_of_lt' (by show x.toNat < 256;omega)] at h2
    rw [show c.toNat.toUInt8.toNat = c.toNat from UInt8.toNat_ofNat_of_lt' (by show c.toNat < 256;omega)] at h2
    omega
  · intro h
    subst h
    rfl
theorem uM (c:Int) (hc:0 ≤ c ∧ c ≤ 255):∀ l:List Int,(∀ x ∈ l,0 ≤ x ∧ x ≤ 255) → Lib.indexByte (Lib.bytesOf l) c.toNat.toUInt8 = match fst c l with | none=>-1 | some i=>(i:Int)
  | [],_=>rfl
  | x :: xs,h=>by
    have ih:=uM c hc xs (fun y hy=>h y (by simp [hy]))
    show (if UInt8.ofNat x.toNat == c.toNat.toUInt8 then 0 else if Lib.indexByte (Lib.bytesOf xs) c.toNat.toUInt8 == -1 then -1 else Lib.indexByte (Lib.bytesOf xs) c.toNat.toUInt8 + 1) = _
    rw [AO x c (h x (by simp)) hc,ih,show fst c (x :: xs) = if x = c then some 0 else (fst c xs).map (· + 1) from rfl]
    by_cases hx:x = c
    · rw [decide_eq_true hx,if_pos rfl,if_pos hx];rfl
    · rw [decide_eq_false hx,if_neg (by decide),if_neg hx]
      cases fst c xs with
      | none=>rfl
      | some i =>
        show (if (((i:Int) == -1) = true) then -1 else (i:Int) + 1) = ((i + 1:Nat):Int)
        have:((i:Int) == -1) = false:=by rw [beq_eq_false_iff_ne];omega
        rw [this,if_neg (by decide)]
        omega
theorem yD (s:ByteArray):s.data.toList = Lib.bytesOf (bytesOf s):=by
  unfold Lib.bytesOf bytesOf
  rw [List.map_map]
  conv=>lhs;rw [← List.map_id s.data.toList]
  apply List.map_congr_left
  intro x _
  simp
theorem toList_nil (s:ByteArray):s.toList = [] ↔ s.size = 0:=by
  rw [Go.ByteArray.toList_eq]
  constructor
  · intro h
    have:=congrArg List.length h
    rw [Array.length_toList] at this
    exact this
  · intro h
    apply List.eq_nil_of_length_eq_zero
    rw [Array.length_toList]
    exact h
theorem wQ (s:ByteArray) (i j:Nat):bytesOf (s.extract i j) = ((bytesOf s).take j).drop i:=by
  unfold bytesOf
  rw [ByteArray.data_extract,Array.toList_extract]
  unfold List.extract
  rw [List.map_take,List.map_drop,List.drop_take]
def nY (c:Int):Bool:=decide (97 ≤ c ∧ c ≤ 122) || decide (65 ≤ c ∧ c ≤ 90) || decide (48 ≤ c ∧ c ≤ 57) || c == 45
def l9 (c:Int):Bool:=decide (32 ≤ c) && c != 127
def nameB (s:ByteArray):Bool:=(bytesOf s).all nY && decide (1 ≤ s.size ∧ s.size ≤ 30)
def qB (s:ByteArray):Bool:=(bytesOf s).all l9 && decide (s.size ≤ 120)
theorem Ap (c:Int) (h:c < 32):l9 c = false:=by unfold l9;rw [decide_eq_false (show ¬ 32 ≤ c by omega),Bool.false_and]
theorem zD:l9 127 = false:=rfl
theorem AX (c:Int) (h:¬ c < 32) (h2:¬ c = 127):l9 c = true:=by unfold l9;rw [decide_eq_true (show 32 ≤ c by omega),bne_iff_ne.mpr h2];rfl
theorem Ez (c:Int):o9.f c = some (nY c):=by
  unfold o9.f nY
  by_cases h1:c ≥ 97 <;> by_cases h2:c ≤ 122 <;> by_cases h3:c ≥ 65 <;> by_cases h4:c ≤ 90 <;> by_cases h5:c ≥ 48 <;> by_cases h6:c ≤ 57 <;> simp [h1,h2,h3,h4,h5,h6]
theorem qA (s:ByteArray) (i:Nat) (h:i < s.size):(bytesOf s).drop i = bt s (i:Int) :: (bytesOf s).drop (i + 1):=by
  have hl:i < (bytesOf s).length:=by rw [bytesOf_length];exact h
  rw [List.drop_eq_getElem_cons hl,← zZ,kD _ i hl]
theorem drop_end (s:ByteArray) (i:Nat) (h:¬ i < s.size):(bytesOf s).drop i = []:=List.drop_eq_nil_of_le (by rw [bytesOf_length];omega)
theorem wrap_succ (i:Nat) (h:i ≤ 4611686018427387904):wrap64 ((i:Int) + 1) = ((i + 1:Nat):Int):=by rw [wrap64_in (by omega)];omega
theorem iH.bY (s:ByteArray) (hs:s.size ≤ 1048576):∀ (n k i:Nat),s.size = i + n → n < k → iH.l0 k s (i:Int) = some (((bytesOf s).drop i).all nY && decide (1 ≤ s.size ∧ s.size ≤ 30))
  | _,0,_,_,h=>absurd h (by omega)
  | 0,k + 1,i,hi,_=>by
    have h1:¬ ((i:Int) < (s.size:Int)):=by omega
    rw [iH.l0,if_neg h1,uu,drop_end s i (by omega)]
    simp only [Option.bind_some,List.all_nil,Bool.true_and]
    congr 1
    rw [decide_eq_decide]
    omega
  | n + 1,k + 1,i,hi,h=>by
    have h1:(i:Int) < (s.size:Int):=by omega
    have h2:(0:Int) ≤ (i:Int):=by omega
    rw [iH.l0,if_pos h1,if_pos h2,Ez,Option.bind_some,wrap_succ i (by omega),iH.bY s hs n k (i + 1) (by omega) (by omega),qA s i (by omega),List.all_cons]
    cases nY (bt s (i:Int)) with
    | true=>rw [if_pos rfl,Bool.true_and]
    | false=>rw [if_neg (by decide),Bool.false_and,Bool.false_and]
theorem Gs (s:ByteArray) (k:Nat) (hs:s.size ≤ 1048576) (hk:s.size < k):iH.f k s = some (nameB s):=by
  have:=iH.bY s hs s.size k 0 (by omega) hk
  unfold iH.f nameB
  simpa using this
theorem iK.bY (s:ByteArray) (hs:s.size ≤ 1048576):∀ (n k i:Nat),s.size = i + n → n < k → iK.l0 k s (i:Int) = some (((bytesOf s).drop i).all l9 && decide (s.size ≤ 120))
  | _,0,_,_,h=>absurd h (by omega)
  | 0,k + 1,i,hi,_=>by
    have h1:¬ ((i:Int) < (s.size:Int)):=by omega
    rw [iK.l0,if_neg h1,drop_end s i (by omega)]
    simp only [List.all_nil,Bool.true_and]
    congr 1
    rw [decide_eq_decide]
    omega
  | n + 1,k + 1,i,hi,h=>by
    have h1:(i:Int) < (s.size:Int):=by omega
    have h2:(0:Int) ≤ (i:Int):=by omega
    rw [iK.l0,if_pos h1,if_pos h2,wrap_succ i (by omega),iK.bY s hs n k (i + 1) (by omega) (by omega),qA s i (by omega),List.all_cons]
    generalize bt s (i:Int) = c
    by_cases g1:c < 32
    · rw [if_pos g1,Ap c g1,Bool.false_and,Bool.false_and]
    · rw [if_neg g1]
      by_cases g2:c = 127
      · rw [if_pos g2,g2,zD,Bool.false_and,Bool.false_and]
      · rw [if_neg g2,AX c g1 g2,Bool.true_and]
theorem DI (s:ByteArray) (k:Nat) (hs:s.size ≤ 1048576) (hk:s.size < k):iK.f k s = some (qB s):=by
  have:=iK.bY s hs s.size k 0 (by omega) hk
  unfold iK.f qB
  simpa using this
theorem EZ (c:Int):nN.f c = some (decide (97 ≤ c ∧ c ≤ 122) || decide (65 ≤ c ∧ c ≤ 90)):=by
  unfold nN.f
  by_cases h1:c ≥ 97 <;> by_cases h2:c ≤ 122 <;> by_cases h3:c ≥ 65 <;> by_cases h4:c ≤ 90 <;> simp [h1,h2,h3,h4]
theorem Ei (c:Int):nO.f c = some (decide (48 ≤ c ∧ c ≤ 57)):=by
  unfold nO.f
  by_cases h1:c ≥ 48 <;> by_cases h2:c ≤ 57 <;> simp [h1,h2]
theorem eG.pU (a s:ByteArray) (hs:s.size ≤ 1048576):∀ (n k i:Nat),s.size = i + n → n < k → eG.l1 k (s.size:Int) (i:Int) a s = some (((bytesOf s).drop i).all l9 && (decide (1 ≤ a.size ∧ a.size ≤ 30) && decide (s.size ≤ 120)))
  | _,0,_,_,h=>absurd h (by omega)
  | 0,k + 1,i,hi,_=>by
    have h1:¬ ((i:Int) < (s.size:Int)):=by omega
    rw [eG.l1,if_neg h1,drop_end s i (by omega)]
    simp only [List.all_nil,Bool.true_and]
    by_cases g1:(a.size:Int) ≥ 1
    · rw [if_pos g1]
      by_cases g2:(a.size:Int) ≤ 30
      · rw [if_pos g2,decide_eq_true (show 1 ≤ a.size ∧ a.size ≤ 30 by omega),Bool.true_and]
        congr 1
        rw [decide_eq_decide]
        omega
      · rw [if_neg g2,decide_eq_false (show ¬ (1 ≤ a.size ∧ a.size ≤ 30) by omega),Bool.false_and]
    · rw [if_neg g1,decide_eq_false (show ¬ (1 ≤ a.size ∧ a.size ≤ 30) by omega),Bool.false_and]
  | n + 1,k + 1,i,hi,h=>by
    have h1:(i:Int) < (s.size:Int):=by omega
    have h2:(0:Int) ≤ (i:Int):=by omega
    rw [eG.l1,if_pos h1,if_pos h2,if_pos h1,wrap_succ i (by omega),eG.pU a s hs n k (i + 1) (by omega) (by omega),qA s i (by omega),List.all_cons]
    generalize bt s (i:Int) = c
    by_cases g1:c < 32
    · rw [if_pos g1,Ap c g1,Bool.false_and,Bool.false_and]
    · rw [if_neg g1]
      by_cases g2:c = 127
      · rw [if_pos g2,g2,zD,Bool.false_and,Bool.false_and]
      · rw [if_neg g2,AX c g1 g2,Bool.true_and]
theorem eG.bY (a s:ByteArray) (ha:a.size ≤ 1048576) (hs:s.size ≤ 1048576):∀ (n k i:Nat),a.size = i + n → n + s.size + 1 < k → eG.l0 k (a.size:Int) (i:Int) a s = some (((bytesOf a).drop i).all nY && ((bytesOf s).all l9 && (decide (1 ≤ a.size ∧ a.size ≤ 30) && decide (s.size ≤ 120))))
  | _,0,_,_,h=>absurd h (by omega)
  | 0,k + 1,i,hi,h=>by
    have h1:¬ ((i:Int) < (a.size:Int)):=by omega
    have:=eG.pU a s hs s.size k 0 (by omega) (by omega)
    rw [List.drop_zero] at this
    rw [eG.l0,if_neg h1,drop_end a i (by omega)]
    simp only [List.all_nil,Bool.true_and]
    exact this
  | n + 1,k + 1,i,hi,h=>by
    have h1:(i:Int) < (a.size:Int):=by omega
    have h2:(0:Int) ≤ (i:Int):=by omega
    rw [eG.l0,if_pos h1,if_pos h2,if_pos h1,wrap_succ i (by omega),eG.bY a s ha hs n k (i + 1) (by omega) (by omega),qA a i (by omega),List.all_cons,EZ,Option.bind_some,Ei,Option.bind_some]
    generalize bt a (i:Int) = c
    unfold nY
    cases (decide (97 ≤ c ∧ c ≤ 122) || decide (65 ≤ c ∧ c ≤ 90)) with
    | true=>rw [if_pos rfl,Bool.true_or,Bool.true_or,Bool.true_and]
    | false =>
      rw [if_neg (by decide),Bool.false_or]
      cases decide (48 ≤ c ∧ c ≤ 57) with
      | true=>rw [if_pos rfl,Bool.true_or,Bool.true_and]
      | false =>
        rw [if_neg (by decide),Bool.false_or]
        by_cases g:c = 45
        · rw [if_pos g,g,beq_self_eq_true,Bool.true_and]
        · rw [if_neg g,beq_eq_false_iff_ne.mpr g,Bool.false_and,Bool.false_and]
theorem CG (a s:ByteArray) (k:Nat) (ha:a.size ≤ 1048576) (hs:s.size ≤ 1048576) (hk:a.size + s.size + 1 < k):eG.f k a s = some (nameB a && qB s):=by
  have:=eG.bY a s ha hs a.size k 0 (by omega) hk
  unfold eG.f nameB qB
  rw [List.drop_zero] at this
  rw [show (0:Int) = ((0:Nat):Int) from rfl,this]
  cases (bytesOf a).all nY <;> cases (bytesOf s).all l9 <;> cases decide (1 ≤ a.size ∧ a.size ≤ 30) <;> rfl
def pW (x:ag):Bool:=nameB x.f0 && qB x.f1
def nR (l:List ag):Int:=if 8 < l.length then 2 else if l.all pW = true then 0 else 5
theorem tJ (l:List ag) (i:Nat) (h:i < l.length):bu l (i:Int) = l[i]:=by
  unfold bu
  rw [Int.toNat_natCast,List.getD_eq_getElem?_getD,List.getElem?_eq_getElem h]
  rfl
def lS (l:List ag):Prop:=l.length ≤ 1048576 ∧ ∀ x ∈ l,x.f0.size ≤ 1048576 ∧ x.f1.size ≤ 1048576
theorem iE.bY (l:List ag) (hl:lS l):∀ (n k i:Nat),l.length = i + n → n + 2097155 < k → iE.l0 k l (i:Int) = some (if (l.drop i).all pW = true then 0 else 5)
  | _,0,_,_,h=>absurd h (by omega)
  | 0,k + 1,i,hi,_=>by
    have h1:¬ ((i:Int) < (l.length:Int)):=by omega
    rw [iE.l0,if_neg h1,List.drop_eq_nil_of_le (by omega)]
    rfl
  | n + 1,k + 1,i,hi,h=>by
    have hlt:i < l.length:=by omega
    have hb:=hl.1
    have h1:(i:Int) < (l.length:Int):=by omega
    have h2:(0:Int) ≤ (i:Int):=by omega
    obtain ⟨z0,z1⟩:=hl.2 l[i] (List.getElem_mem hlt)
    rw [iE.l0,if_pos h1,if_pos h2,wrap_succ i (by omega),iE.bY l hl n k (i + 1) (by omega) (by omega),tJ l i hlt,Gs _ k z0 (by omega),Option.bind_some,DI _ k z1 (by omega),Option.bind_some,List.drop_eq_getElem_cons hlt,List.all_cons]
    unfold pW
    cases nameB l[i].f0 with
    | true =>
      rw [if_pos rfl,Bool.true_and]
      cases qB l[i].f1 with
      | true=>rw [if_pos rfl,Bool.true_and]
      | false=>rw [if_neg (by decide),Bool.false_and];rfl
    | false=>rw [if_neg (by decide),Bool.false_and,Bool.false_and];rfl
theorem yN (l:List ag) (hl:lS l) (k:Nat) (hk:l.length + 2097155 < k):iE.f k l = some (nR l):=by
  unfold iE.f nR
  by_cases h:8 < l.length
  · rw [if_pos (by omega),if_pos h]
  · have:=iE.bY l hl l.length k 0 (by omega) hk
    rw [List.drop_zero] at this
    rw [if_neg (by omega),if_neg h]
    exact this
theorem iG.bY (l:List ag) (hl:lS l):∀ (n k i:Nat),l.length = i + n → n + 2097155 < k → iG.l0 k l (l.length:Int) (i:Int) = some (if (l.drop i).all pW = true then 0 else 5)
  | _,0,_,_,h=>absurd h (by omega)
  | 0,k + 1,i,hi,_=>by
    have h1:¬ ((i:Int) < (l.length:Int)):=by omega
    rw [iG.l0,if_neg h1,List.drop_eq_nil_of_le (by omega)]
    rfl
  | n + 1,k + 1,i,hi,h=>by
    have hlt:i < l.length:=by omega
    have hb:=hl.1
    have h1:(i:Int) < (l.length:Int):=by omega
    have h2:(0:Int) ≤ (i:Int):=by omega
    obtain ⟨z0,z1⟩:=hl.2 l[i] (List.getElem_mem hlt)
    rw [iG.l0,if_pos h1,if_pos h2,if_pos h1,wrap_succ i (by omega),iG.bY l hl n k (i + 1) (by omega) (by omega),tJ l i hlt,CG _ _ k z0 z1 (by omega),Option.bind_some,List.drop_eq_getElem_cons hlt,List.all_cons]
    show (if pW l[i] = true then _ else _) = _
    cases pW l[i] with
    | true=>rw [if_pos rfl,Bool.true_and]
    | false=>rw [if_neg (by decide),Bool.false_and];rfl
theorem yS (l:List ag) (hl:lS l) (k:Nat) (hk:l.length + 2097155 < k):iG.f k l = some (nR l):=by
  unfold iG.f nR
  by_cases h:8 < l.length
  · rw [if_pos (by omega),if_pos h]
  · have:=iG.bY l hl l.length k 0 (by omega) hk
    rw [List.drop_zero] at this
    rw [if_neg (by omega),if_neg h]
    exact this
def dL (l:List Int):Nat:=(fst 10 l).getD l.length
theorem rq (l:List Int):dL l ≤ l.length:=by
  unfold dL
  cases h:fst 10 l with
  | none=>exact Nat.le_refl _
  | some i=>exact Nat.le_of_lt (rX 10 l i h)
theorem BO (x:Int) (xs:List Int):dL (x :: xs) = if x = 10 then 0 else dL xs + 1:=by
  unfold dL
  rw [show fst 10 (x :: xs) = if x = 10 then some 0 else (fst 10 xs).map (· + 1) from rfl]
  by_cases h:x = 10
  · rw [if_pos h,if_pos h];rfl
  · rw [if_neg h,if_neg h]
    cases fst 10 xs <;> rfl
theorem gY.bY (data:List Int) (hd:data.length ≤ 1048576):∀ (n k i:Nat),data.length = i + n → n < k → gY.l0 k data (i:Int) = some ((i + dL (data.drop i):Nat):Int)
  | _,0,_,_,h=>absurd h (by omega)
  | 0,k + 1,i,hi,_=>by
    have h1:¬ ((i:Int) < (data.length:Int)):=by omega
    rw [gY.l0,if_neg h1,List.drop_eq_nil_of_le (by omega)]
    rfl
  | n + 1,k + 1,i,hi,h=>by
    have hlt:i < data.length:=by omega
    have h1:(i:Int) < (data.length:Int):=by omega
    have h2:(0:Int) ≤ (i:Int):=by omega
    rw [gY.l0,if_pos h1,if_pos h2,kD data i hlt,wrap_succ i (by omega),gY.bY data hd n k (i + 1) (by omega) (by omega),List.drop_eq_getElem_cons hlt,BO]
    by_cases c:data[i] = 10
    · rw [if_pos c,if_pos c];rfl
    · rw [if_neg c,if_neg c]
      congr 2
      omega
theorem xN (data:List Int) (hd:data.length ≤ 1048576) (k i:Nat) (hi:i ≤ data.length) (hk:data.length < k):gY.f k data (i:Int) = some ((i + dL (data.drop i):Nat):Int):=by
  unfold gY.f
  exact gY.bY data hd (data.length - i) k i (by omega) (by omega)
def lJ (v:ByteArray):ByteArray:=if 0 < v.size ∧ bt v 0 = 32 then v.extract 1 v.size else v
def mO (s:ByteArray) (c:Nat):ag:=⟨s.extract 0 c,lJ (s.extract (c + 1) s.size)⟩
def vO (fs:List ag) (s:ByteArray):List ag:=fs.set (fs.length - 1) ⟨(fs.getD (fs.length - 1) lK).f0,(fs.getD (fs.length - 1) lK).f1 ++ s⟩
def kV (fs:List ag) (s:ByteArray):Option (List ag):=
  if bt s 0 = 32 ∨ bt s 0 = 9 then (if fs.length = 0 then none else some (vO fs s)) else match fst 58 (bytesOf s) with | none=>none | some c=>some (fs ++ [mO s c])
theorem xB (fs:List ag) (w:ag) (hf:fs.length ≤ 1048576) (a b:Int) (hab:a ≤ b):((some (([]:List (ag)):List (ag))).bind fun y116=>(if y116.length + fs.length < 4398046511104 then ((some (y116 ++ fs:List (ag))).bind fun y119=>(if a ≤ b then ((some (([w]:List (ag)):List (ag))).bind fun y122=>(if y119.length + y122.length < 4398046511104 then (some ((y119 ++ y122),true)) else (none))) else (none))) else (none))) = some (fs ++ [w],true):=by
  rw [Option.bind_some,if_pos (by simp;omega),Option.bind_some,if_pos hab,Option.bind_some,if_pos (by simp;omega)]
  rfl
theorem dU.bY (fs:List ag) (s:ByteArray) (hs:s.size ≤ 1048576) (hf:fs.length ≤ 1048576):∀ (n k i:Nat),s.size = i + n → n < k → dU.l0 k fs s (i:Int) = some (match fst 58 ((bytesOf s).drop i) with | none=>([],false) | some c=>(fs ++ [mO s (i + c)],true))
  | _,0,_,_,h=>absurd h (by omega)
  | 0,k + 1,i,hi,_=>by
    have h1:¬ ((i:Int) < (s.size:Int)):=by omega
    rw [dU.l0,if_neg h1,drop_end s i (by omega)]
    rfl
  | n + 1,k + 1,i,hi,h=>by
    have hlt:i < s.size:=by omega
    have h1:(i:Int) < (s.size:Int):=by omega
    have h2:(0:Int) ≤ (i:Int):=by omega
    have h3:(0:Int) ≤ ((i + 1:Nat):Int):=by omega
    have h4:((i + 1:Nat):Int) ≤ (s.size:Int):=by omega
    rw [dU.l0,if_pos h1,if_pos h2,wrap_succ i (by omega),qA s i hlt,show fst 58 (bt s (i:Int) :: (bytesOf s).drop (i + 1)) = if bt s (i:Int) = 58 then some 0 else (fst 58 ((bytesOf s).drop (i + 1))).map (· + 1) from rfl]
    by_cases c:bt s (i:Int) = 58
    · rw [if_pos c,if_pos c,if_pos h3,if_pos h4,Int.toNat_natCast,Int.toNat_natCast]
      show _ = some (fs ++ [mO s i],true)
      unfold mO
      have hz:=toList_nil (s.extract (i + 1) s.size)
      generalize s.extract (i + 1) s.size = v at hz
      by_cases g1:v.toList = []
      · rw [if_pos g1,xB fs _ hf _ _ (by omega)]
        have:lJ v = v:=by unfold lJ;rw [if_neg (by have:=hz.1 g1;omega)]
        rw [this]
      · have hp:0 < v.size:=by
          rcases Nat.eq_zero_or_pos v.size with h0 | h0
          · exact absurd (hz.2 h0) g1
          · exact h0
        rw [if_neg g1,if_pos (by omega)]
        by_cases g2:bt v 0 = 32
        · rw [if_pos g2,if_pos (by omega),xB fs _ hf _ _ (by omega)]
          have:lJ v = v.extract 1 v.size:=by unfold lJ;rw [if_pos ⟨hp,g2⟩]
          rw [this]
        · rw [if_neg g2,xB fs _ hf _ _ (by omega)]
          have:lJ v = v:=by unfold lJ;rw [if_neg (fun e=>g2 e.2)]
          rw [this]
    · rw [if_neg c,if_neg c,dU.bY fs s hs hf n k (i + 1) (by omega) (by omega)]
      cases fst 58 ((bytesOf s).drop (i + 1)) with
      | none=>rfl
      | some q =>
        show some (fs ++ [mO s (i + 1 + q)],true) = some (fs ++ [mO s (i + (q + 1))],true)
        rw [show i + 1 + q = i + (q + 1) by omega]
theorem FO (fs:List ag) (s:ByteArray) (hs:s.size ≤ 1048576) (hp:0 < s.size) (hf:fs.length ≤ 1048576) (hv:∀ x ∈ fs,x.f1.size ≤ 1048576) (k:Nat) (hk:s.size + 1 < k):dU.f k fs s = some (match kV fs s with | none=>([],false) | some f=>(f,true)):=by
  obtain ⟨k,rfl⟩ : ∃ m,k = m + 1:=⟨k - 1,by omega⟩
  have key:∀ b:Bool,dU.j0 (k + 1) fs s (fs.length:Int) b = some (match (if b = true then (if fs.length = 0 then none else some (vO fs s)) else match fst 58 (bytesOf s) with | none=>none | some c=>some (fs ++ [mO s c])) with | none=>([],false) | some f=>(f,true)):=by
    intro b
    cases b with
    | true =>
      rw [dU.j0,if_pos rfl,if_pos rfl]
      by_cases h0:fs.length = 0
      · rw [if_pos (by omega),if_pos h0]
      · have w1:wrap64 ((fs.length:Int) - 1) = ((fs.length - 1:Nat):Int):=by rw [wrap64_in (by omega)];omega
        have hm:(fs.getD (fs.length - 1) lK).f1.size ≤ 1048576:=by
          rw [List.getD_eq_getElem?_getD,List.getElem?_eq_getElem (by omega)]
          exact hv _ (List.getElem_mem _)
        rw [if_neg (by omega),if_neg h0,Option.bind_some,if_pos (by simp;omega),Option.bind_some,w1,List.nil_append,if_pos (by omega),if_pos (by omega)]
        unfold bu
        rw [Int.toNat_natCast,if_pos (by omega)]
        rfl
    | false =>
      have:=dU.bY fs s hs hf s.size k 0 (by omega) (by omega)
      rw [List.drop_zero] at this
      rw [dU.j0,if_neg (by decide),if_neg (by decide)]
      refine Eq.trans this ?_
      cases fst 58 (bytesOf s) with
      | none=>rfl
      | some c =>
        show some (fs ++ [mO s (0 + c)],true) = _
        rw [Nat.zero_add]
  unfold dU.f kV
  rw [if_pos (by omega)]
  by_cases c1:bt s 0 = 32
  · rw [if_pos c1,if_pos (Or.inl c1),key true,if_pos rfl]
  · rw [if_neg c1]
    by_cases c2:bt s 0 = 9
    · rw [if_pos (Or.inr c2),c2,beq_self_eq_true,key true,if_pos rfl]
    · rw [if_neg (by omega:¬ (bt s 0 = 32 ∨ bt s 0 = 9)),beq_eq_false_iff_ne.mpr c2,key false,if_neg (by decide)]
def lM (fs:List ag) (n:Nat):Prop:=fs.length ≤ n ∧ ∀ x ∈ fs,x.f0.size ≤ n ∧ x.f1.size ≤ n
theorem rH (fs:List ag) (n:Nat) (h:lM fs n) (hn:n ≤ 1048576):lS fs:=
  ⟨Nat.le_trans h.1 hn,fun x hx=>⟨Nat.le_trans (h.2 x hx).1 hn,Nat.le_trans (h.2 x hx).2 hn⟩⟩
theorem sN (fs:List ag) (n m:Nat) (h:lM fs n) (hn:n ≤ m):lM fs m:=
  ⟨Nat.le_trans h.1 hn,fun x hx=>⟨Nat.le_trans (h.2 x hx).1 hn,Nat.le_trans (h.2 x hx).2 hn⟩⟩
theorem Fq (v:ByteArray):(lJ v).size ≤ v.size:=by
  unfold lJ
  split
  · rw [ByteArray.size_extract];omega
  · exact Nat.le_refl _
theorem yT (fs f:List ag) (s:ByteArray) (n:Nat) (h:lM fs n) (hp:0 < s.size) (he:kV fs s = some f):lM f (n + s.size):=by
  unfold kV at he
  by_cases c:bt s 0 = 32 ∨ bt s 0 = 9
  · rw [if_pos c] at he
    by_cases h0:fs.length = 0
    · rw [if_pos h0] at he;cases he
    · rw [if_neg h0] at he
      cases he
      have hm:=h.2 (fs.getD (fs.length - 1) lK) (by rw [List.getD_eq_getElem?_getD,List.getElem?_eq_getElem (by omega)];exact List.getElem_mem _)
      unfold vO
      refine ⟨by rw [List.length_set];have:=h.1;omega,fun x hx=>?_⟩
      rcases List.mem_or_eq_of_mem_set hx with hx | rfl
      · have:=h.2 x hx;omega
      · refine ⟨by simp only;omega,?_⟩
        simp only
        rw [ByteArray.size_append]
        omega
  · rw [if_neg c] at he
    cases hf:fst 58 (bytesOf s) with
    | none=>rw [hf] at he;cases he
    | some q =>
      rw [hf] at he
      cases he
      refine ⟨by rw [List.length_append,List.length_singleton];have:=h.1;omega,fun x hx=>?_⟩
      rcases List.mem_append.1 hx with hx | hx
      · have:=h.2 x hx;omega
      · rw [List.mem_singleton.1 hx]
        unfold mO
        have h1:=Fq (s.extract (q + 1) s.size)
        have h2:(s.extract 0 q).size ≤ s.size:=by rw [ByteArray.size_extract];omega
        have h3:(s.extract (q + 1) s.size).size ≤ s.size:=by rw [ByteArray.size_extract];omega
        exact ⟨by simp only;omega,by simp only;omega⟩
def jh:Nat → List Int → Nat → List ag → List ag × Int × Bool
  | 0,_,_,_=>([],0,false)
  | n + 1,data,i,fs=>if i < data.length then (if dL (data.drop i) = 0 then (fs,((i + 1:Nat):Int),nR fs == 0) else match kV fs (strOfNums ((data.drop i).take (dL (data.drop i)))) with
      | none=>([],0,false)
      | some f=>jh n data (min (i + dL (data.drop i) + 1) data.length) f)
    else (fs,(i:Int),nR fs == 0)
theorem Gj (s:ByteArray) (hs:s.size ≤ 1048576):strings_Cut.f s (⟨#[58]⟩ : ByteArray) = some (match fst 58 (bytesOf s) with | none=>(s,(⟨#[]⟩ : ByteArray),false) | some c=>(s.extract 0 c,s.extract (c + 1) s.size,true)):=by
  have hi:stringslite_Index.f s (⟨#[58]⟩ : ByteArray) = some (match fst 58 (bytesOf s) with | none=>-1 | some i=>(i:Int)):=by
    unfold stringslite_Index.f
    rw [if_pos (show (⟨#[58]⟩ : ByteArray).size = 1 from rfl),yD,← uM 58 (by omega) (bytesOf s) (nJ s)]
    rfl
  unfold strings_Cut.f stringslite_Cut.f
  rw [hi]
  cases hf:fst 58 (bytesOf s) with
  | none=>rfl
  | some c =>
    have hlt:=rX 58 _ c hf
    rw [bytesOf_length] at hlt
    have w1:wrap64 ((c:Int) + ((⟨#[58]⟩ : ByteArray).size:Int)) = ((c + 1:Nat):Int):=wrap_succ c (by omega)
    simp only [Option.bind_some,w1]
    rw [if_pos (by omega),if_pos (by omega),if_pos (by omega),if_pos (by omega),if_pos (by omega)]
    rfl
theorem EW (v:ByteArray) (hv:v.size ≤ 1048576):strings_TrimPrefix.f v (⟨#[32]⟩ : ByteArray) = some (lJ v):=by
  have h1:((⟨#[32]⟩ : ByteArray).size:Int) = 1:=rfl
  unfold strings_TrimPrefix.f stringslite_TrimPrefix.f stringslite_HasPrefix.f lJ
  rw [h1]
  by_cases c:0 < v.size
  · have hh:((v.extract 0 ((1:Int):Int).toNat).toList == (⟨#[32]⟩ : ByteArray).toList) = decide (bt v 0 = 32):=by
      rw [Go.ByteArray.toList_eq,Go.ByteArray.toList_eq,Bool.eq_iff_iff,beq_iff_eq,decide_eq_true_eq]
      have hb:=wQ v 0 1
      have hd:=qA v 0 c
      rw [List.drop_zero] at hd
      rw [hd] at hb
      have he:bytesOf (v.extract 0 1) = [bt v ((0:Nat):Int)]:=hb
      rw [show ((1:Int)).toNat = 1 from rfl,yD,he]
      show [UInt8.ofNat (bt v 0).toNat] = [32] ↔ _
      have hr:=BP v 0
      constructor
      · intro h
        injection h with h
        have:=AO (bt v 0) 32 hr (by omega)
        rw [show (32:Int).toNat.toUInt8 = (32:UInt8) from rfl,h] at this
        exact of_decide_eq_true this.symm
      · intro h
        rw [h]
        rfl
    rw [if_pos (show (v.size:Int) ≥ 1 by omega),if_pos (show (0:Int) ≤ 1 by omega),if_pos (show (1:Int) ≤ (v.size:Int) by omega),hh,Option.bind_some]
    by_cases g:bt v 0 = 32
    · rw [if_pos (decide_eq_true g),if_pos (show (0:Int) ≤ 1 by omega),if_pos (show (1:Int) ≤ (v.size:Int) by omega),if_pos (show 0 < v.size ∧ bt v 0 = 32 from ⟨c,g⟩)]
      rfl
    · rw [if_neg (show ¬ (decide (bt v 0 = 32) = true) by simpa using g),if_neg (show ¬ (0 < v.size ∧ bt v 0 = 32) from fun e=>g e.2)]
      rfl
  · rw [if_neg (show ¬ ((v.size:Int) ≥ 1) by omega),if_neg (show ¬ (0 < v.size ∧ bt v 0 = 32) from fun e=>c e.1)]
    rfl
theorem FW (b:Int):mY.f b = some (b == 32 || b == 9):=by
  unfold mY.f
  by_cases h1:b = 32 <;> by_cases h2:b = 9 <;> simp_all
theorem dV.tC (data:List Int) (hd:data.length ≤ 1048576) (fs:List ag) (i m:Nat) (x8:Int) (him:i + m ≤ data.length) (hf:lM fs 1048576) (k:Nat) (hk:fs.length + 2097155 < k) :
    dV.j1 (k + 1) data fs (i:Int) (m:Int) x8 = if m = 0 then some (fs,x8,nR fs == 0) else match kV fs (strOfNums ((data.drop i).take m)) with | none=>some ([],0,false) | some f=>dV.l0 k data f x8:=by
  have w1:wrap64 ((i:Int) + (m:Int)) = ((i + m:Nat):Int):=by rw [wrap64_in (by omega)];omega
  have hcut:(data.take (i + m)).drop i = (data.drop i).take m:=by rw [List.drop_take,Nat.add_sub_cancel_left]
  have hlen:((data.drop i).take m).length = m:=by rw [List.length_take,List.length_drop];omega
  rw [dV.j1,w1,Int.toNat_natCast,Int.toNat_natCast,hcut,if_pos (by omega),if_pos (by omega),if_pos (by omega)]
  have hsz:=strOfNums_size ((data.drop i).take m)
  have hz:=toList_nil (strOfNums ((data.drop i).take m))
  rw [hlen] at hsz
  generalize strOfNums ((data.drop i).take m) = s at hsz hz
  by_cases h0:m = 0
  · rw [if_pos (hz.2 (by omega)),if_pos h0,yS fs (rH fs _ hf (Nat.le_refl _)) k hk]
    rfl
  · have hne:¬ s.toList = []:=fun e=>h0 (by have:=hz.1 e;omega)
    rw [if_neg hne,if_neg h0,if_pos (by omega),FW,Option.bind_some]
    unfold kV
    by_cases c:bt s 0 = 32 ∨ bt s 0 = 9
    · have hb:(bt s 0 == 32 || bt s 0 == 9) = true:=by simpa using c
      rw [if_pos c,if_pos hb]
      by_cases g:fs.length = 0
      · rw [if_pos (by omega),if_pos g]
      · have w2:wrap64 ((fs.length:Int) - 1) = ((fs.length - 1:Nat):Int):=by have:=hf.1;rw [wrap64_in (by omega)];omega
        have hm:(fs.getD (fs.length - 1) lK).f1.size ≤ 1048576:=by
          rw [List.getD_eq_getElem?_getD,List.getElem?_eq_getElem (by omega)]
          exact (hf.2 _ (List.getElem_mem _)).2
        rw [if_neg (by omega),if_neg g,w2,if_pos (by omega),if_pos (by omega)]
        unfold bu
        rw [Int.toNat_natCast,if_pos (by omega)]
        rfl
    · have hb:¬ (bt s 0 == 32 || bt s 0 == 9) = true:=by simpa using c
      rw [if_neg c,if_neg hb,Gj s (by omega),Option.bind_some]
      cases fst 58 (bytesOf s) with
      | none=>rfl
      | some q =>
        have hv:(s.extract (q + 1) s.size).size ≤ 1048576:=by rw [ByteArray.size_extract];omega
        show (if true = true then ((strings_TrimPrefix.f (s.extract (q + 1) s.size) (⟨#[32]⟩ : ByteArray)).bind fun t200=>(if fs.length < 4398046511104 then (dV.l0 k data (fs ++ [(⟨s.extract 0 q,t200⟩ : ag)]) x8) else (none))) else _) = dV.l0 k data (fs ++ [mO s q]) x8
        rw [if_pos rfl,EW _ hv,Option.bind_some,if_pos (by have:=hf.1;omega)]
        rfl
theorem gy.step (data:List Int) (hd:data.length ≤ 1048576) (fs:List ag) (i:Nat) (hi:i < data.length) (hf:lM fs 1048576) (k:Nat) (hk:fs.length + 2097155 + data.length < k) :
    gy.l0 (k + 1) data fs (i:Int) = if dL (data.drop i) = 0 then some (fs,((i + 1:Nat):Int),nR fs == 0) else match kV fs (strOfNums ((data.drop i).take (dL (data.drop i)))) with | none=>some ([],0,false) | some f=>gy.l0 k data f ((min (i + dL (data.drop i) + 1) data.length:Nat):Int):=by
  have hle:=rq (data.drop i)
  rw [List.length_drop] at hle
  have hcut:(data.take (i + dL (data.drop i))).drop i = (data.drop i).take (dL (data.drop i)):=by rw [List.drop_take,Nat.add_sub_cancel_left]
  have hlen:((data.drop i).take (dL (data.drop i))).length = dL (data.drop i):=by rw [List.length_take,List.length_drop];omega
  conv=>lhs;unfold gy.l0
  rw [if_pos (by omega),xN data hd k i (by omega) (by omega),Option.bind_some]
  generalize dL (data.drop i) = m at hle hcut hlen
  by_cases h0:m = 0
  · subst h0
    rw [if_pos (show ((i + 0:Nat):Int) = (i:Int) by omega),if_pos rfl,yN fs (rH fs _ hf (Nat.le_refl _)) k (by omega),Option.bind_some,wrap_succ i (by omega)]
  · rw [if_neg (by omega),if_neg h0,if_pos (by omega),if_pos (by omega),if_pos (by omega),Int.toNat_natCast,Int.toNat_natCast,hcut]
    have hsz:=strOfNums_size ((data.drop i).take m)
    rw [hlen] at hsz
    generalize strOfNums ((data.drop i).take m) = s at hsz
    rw [FO fs s (by omega) (by omega) hf.1 (fun x hx=>(hf.2 x hx).2) k (by omega),Option.bind_some]
    cases kV fs s with
    | none=>rfl
    | some f =>
      show (if true = true then _ else _) = _
      rw [if_pos rfl]
      by_cases g:i + m < data.length
      · rw [if_pos (by omega),wrap_succ (i + m) (by omega),show min (i + m + 1) data.length = i + m + 1 by omega]
      · rw [if_neg (by omega),show min (i + m + 1) data.length = i + m by omega]
theorem dV.step (data:List Int) (hd:data.length ≤ 1048576) (hB:∀ x ∈ data,0 ≤ x ∧ x ≤ 255) (fs:List ag) (i:Nat) (hi:i < data.length) (hf:lM fs 1048576) (k:Nat) (hk:fs.length + 2097155 < k) :
    dV.l0 (k + 2) data fs (i:Int) = if dL (data.drop i) = 0 then some (fs,((i + 1:Nat):Int),nR fs == 0) else match kV fs (strOfNums ((data.drop i).take (dL (data.drop i)))) with | none=>some ([],0,false) | some f=>dV.l0 k data f ((min (i + dL (data.drop i) + 1) data.length:Nat):Int):=by
  have hdB:∀ x ∈ data.drop i,0 ≤ x ∧ x ≤ 255:=fun x hx=>hB x (List.mem_of_mem_drop hx)
  have hdl:(data.drop i).length = data.length - i:=List.length_drop
  have hx:bytes_IndexByte.f (data.drop i) 10 = some (match fst 10 (data.drop i) with | none=>-1 | some j=>(j:Int)):=by
    unfold bytes_IndexByte.f
    rw [if_pos (by omega),uM 10 (by omega) _ hdB]
  conv=>lhs;unfold dV.l0
  rw [if_pos (by omega),if_pos (by omega),if_pos (by omega),Int.toNat_natCast,hx,Option.bind_some]
  cases hf10:fst 10 (data.drop i) with
  | none =>
    have hm:dL (data.drop i) = data.length - i:=by unfold dL;rw [hf10];exact hdl
    have w1:wrap64 ((data.length:Int) - (i:Int)) = ((data.length - i:Nat):Int):=by rw [wrap64_in (by omega)];omega
    show (if (-1:Int) < 0 then _ else _) = _
    rw [if_pos (by decide),w1,dV.tC data hd fs i (data.length - i) _ (by omega) hf k hk,hm,if_neg (by omega),if_neg (by omega),show min (i + (data.length - i) + 1) data.length = data.length by omega]
  | some m =>
    have hlt:=rX 10 _ m hf10
    have hm:dL (data.drop i) = m:=by unfold dL;rw [hf10];rfl
    have w1:wrap64 ((i:Int) + (m:Int)) = ((i + m:Nat):Int):=by rw [wrap64_in (by omega)];omega
    show (if (m:Int) < 0 then _ else _) = _
    rw [if_neg (by omega),w1,wrap_succ (i + m) (by omega),dV.tC data hd fs i m _ (by omega) hf k hk,hm,show min (i + m + 1) data.length = i + m + 1 by omega]
    by_cases h0:m = 0
    · simp only [if_pos h0];rw [h0]
    · simp only [if_neg h0]
theorem AZ (data:List Int) (hd:data.length ≤ 1048576) (hB:∀ x ∈ data,0 ≤ x ∧ x ≤ 255):∀ (n k k2 i:Nat) (fs:List ag),data.length < i + n → i ≤ data.length → lM fs i → 4194400 + n < k → 4194400 + 2 * n < k2 → gy.l0 k data fs (i:Int) = some (jh n data i fs) ∧ dV.l0 k2 data fs (i:Int) = some (jh n data i fs)
  | 0,_,_,_,_,h,h2,_,_,_=>absurd h (by omega)
  | n + 1,k,k2,i,fs,h,h2,hf,hk,hk2=>by
    obtain ⟨k,rfl⟩ : ∃ m,k = m + 1:=⟨k - 1,by omega⟩
    obtain ⟨k2,rfl⟩ : ∃ m,k2 = m + 2:=⟨k2 - 2,by omega⟩
    have hf2:=sN fs i 1048576 hf (by omega)
    have hfl:=hf.1
    unfold jh
    by_cases hi:i < data.length
    · rw [gy.step data hd fs i hi hf2 k (by omega),dV.step data hd hB fs i hi hf2 k2 (by omega),if_pos hi]
      have hle:=rq (data.drop i)
      rw [List.length_drop] at hle
      have hlen:((data.drop i).take (dL (data.drop i))).length = dL (data.drop i):=by rw [List.length_take,List.length_drop];omega
      have hsz:=strOfNums_size ((data.drop i).take (dL (data.drop i)))
      rw [hlen] at hsz
      generalize dL (data.drop i) = m at hle hlen hsz
      by_cases h0:m = 0
      · simp only [if_pos h0];exact ⟨trivial,trivial⟩
      · simp only [if_neg h0]
        generalize strOfNums ((data.drop i).take m) = s at hsz
        cases hl:kV fs s with
        | none=>exact ⟨rfl,rfl⟩
        | some f =>
          have hok:=yT fs f s i hf (by omega) hl
          exact AZ data hd hB n k k2 (min (i + m + 1) data.length) f (by omega) (by omega) (sN f _ _ hok (by omega)) (by omega) (by omega)
    · obtain ⟨k2,rfl⟩ : ∃ m,k2 = m + 1:=⟨k2 - 1,by omega⟩
      have hI:¬ ((i:Int) < (data.length:Int)):=by omega
      rw [gy.l0,dV.l0,if_neg hI,if_neg hI,if_neg hi,yN fs (rH fs _ hf2 (Nat.le_refl _)) k (by omega),yS fs (rH fs _ hf2 (Nat.le_refl _)) (k2 + 1 + 1) (by omega)]
      exact ⟨rfl,rfl⟩
theorem xH (data:List Int) (hd:data.length ≤ 1048576) (hB:∀ x ∈ data,0 ≤ x ∧ x ≤ 255) (k:Nat) (hk:8388800 < k):gy.f k data = some (jh (data.length + 1) data 0 []) ∧ dV.f k data = some (jh (data.length + 1) data 0 []):=by
  unfold gy.f dV.f
  exact AZ data hd hB (data.length + 1) k k 0 [] (by omega) (by omega) ⟨Nat.zero_le _,by simp⟩ (by omega) (by omega)
theorem zg (data:List Int) (hd:data.length ≤ 1048576):∀ (n i:Nat) (fs:List ag),i ≤ data.length → lM fs i → lM (jh n data i fs).1 1048576
  | 0,_,_,_,_=>⟨Nat.zero_le _,by simp [jh]⟩
  | n + 1,i,fs,hi,hf=>by
    have hf2:=sN fs i 1048576 hf (by omega)
    unfold jh
    by_cases c:i < data.length
    · rw [if_pos c]
      have hle:=rq (data.drop i)
      rw [List.length_drop] at hle
      have hlen:((data.drop i).take (dL (data.drop i))).length = dL (data.drop i):=by rw [List.length_take,List.length_drop];omega
      have hsz:=strOfNums_size ((data.drop i).take (dL (data.drop i)))
      rw [hlen] at hsz
      generalize dL (data.drop i) = m at hle hlen hsz
      by_cases h0:m = 0
      · rw [if_pos h0];exact hf2
      · rw [if_neg h0]
        generalize strOfNums ((data.drop i).take m) = s at hsz
        cases hl:kV fs s with
        | none=>exact ⟨Nat.zero_le _,by simp⟩
        | some f =>
          have hok:=yT fs f s i hf (by omega) hl
          exact zg data hd n (min (i + m + 1) data.length) f (by omega) (sN f _ _ hok (by omega))
    · rw [if_neg c];exact hf2
def low (b:Int):Int:=if 65 ≤ b ∧ b ≤ 90 then (b + 32) % 256 else b
theorem xm (L:List Int) (i:Nat) (h:i < L.length):((L.take i).map low ++ L.drop i).set i (low L[i]) = (L.take (i + 1)).map low ++ L.drop (i + 1):=by
  rw [List.set_append_right _ _ (by simp;omega)]
  have h5:i - ((L.take i).map low).length = 0:=by simp;omega
  rw [h5,List.drop_eq_getElem_cons h,List.set_cons_zero,List.take_succ_eq_append_getElem h,List.map_append,List.append_assoc]
  rfl
theorem zK (L:List Int) (i:Nat) (h:i < L.length):rd ((L.take i).map low ++ L.drop i) (i:Int) = L[i]:=by
  rw [kD _ i (by simp;omega),List.getElem_append_right (by simp;omega)]
  simp only [List.getElem_drop]
  congr 1
  simp;omega
theorem Bi (L:List Int) (i:Nat) (h:i < L.length) (hl:low L[i] = L[i]):(L.take i).map low ++ L.drop i = (L.take (i + 1)).map low ++ L.drop (i + 1):=by
  rw [← xm L i h,hl,List.set_append_right _ _ (by simp;omega)]
  have h5:i - ((L.take i).map low).length = 0:=by simp;omega
  rw [h5,List.drop_eq_getElem_cons h,List.set_cons_zero]
theorem xA (L:List Int) (i:Nat):((L.take i).map low ++ L.drop i).length = L.length:=by simp;omega
theorem dG.bY (L:List Int) (hb:L.length ≤ maxLen):∀ (n k i:Nat),L.length = i + n → n < k → dG.l0 k ((L.take i).map low ++ L.drop i) (i:Int) = some (strOfNums (L.map low))
  | 0,0,_,_,h=>absurd h (by omega)
  | 0,k + 1,i,hi,_=>by
    have h1:¬ ((i:Int) < (((L.take i).map low ++ L.drop i).length:Int)):=by rw [xA];omega
    unfold dG.l0
    rw [if_neg h1,List.drop_eq_nil_of_le (by omega),List.take_of_length_le (by omega),List.append_nil]
  | n + 1,0,_,_,h=>absurd h (by omega)
  | n + 1,k + 1,i,hi,h=>by
    have hm:=zh
    have h1:(i:Int) < (((L.take i).map low ++ L.drop i).length:Int):=by rw [xA];omega
    have h2:(0:Int) ≤ (i:Int):=by omega
    have h4:wrap64 ((i:Int) + 1) = ((i + 1:Nat):Int):=by rw [wrap64_in (by omega)];omega
    have hlt:i < L.length:=by omega
    have ih:=dG.bY L hb n k (i + 1) (by omega) (by omega)
    have hs:=xm L i hlt
    have hq:=Bi L i hlt
    unfold dG.l0
    rw [if_pos h1,if_pos h2,zK L i hlt,h4,Int.toNat_natCast]
    generalize L[i] = y at hs hq
    by_cases h5:y ≥ 65
    · rw [if_pos h5]
      by_cases h6:y ≤ 90
      · rw [if_pos h6]
        have h7:low y = (y + 32) % 256:=by unfold low;rw [if_pos ⟨h5,h6⟩]
        rw [← h7,hs,ih]
      · rw [if_neg h6,hq (by unfold low;rw [if_neg (by omega)]),ih]
    · rw [if_neg h5,hq (by unfold low;rw [if_neg (by omega)]),ih]
theorem qM (a:ByteArray) (k:Nat) (hb:a.size ≤ 1048576) (hk:a.size < k):dG.f k a = some (strOfNums ((bytesOf a).map low)):=by
  have hl:=tY a
  unfold dG.f
  rw [if_pos (by omega)]
  have:=dG.bY (bytesOf a) (by unfold maxLen;omega) a.size k 0 (by omega) hk
  simpa using this
theorem di.bY (L:List Int) (hb:L.length ≤ maxLen):∀ (n k i:Nat),L.length = i + n → n < k → di.l0 k ((L.take i).map low ++ L.drop i) (L.length:Int) (i:Int) = some (strOfNums (L.map low))
  | 0,0,_,_,h=>absurd h (by omega)
  | 0,k + 1,i,hi,_=>by
    have h1:¬ ((i:Int) < (L.length:Int)):=by omega
    unfold di.l0
    rw [if_neg h1,List.drop_eq_nil_of_le (by omega),List.take_of_length_le (by omega),List.append_nil]
  | n + 1,0,_,_,h=>absurd h (by omega)
  | n + 1,k + 1,i,hi,h=>by
    have hm:=zh
    have h0:(i:Int) < (L.length:Int):=by omega
    have h1:(i:Int) < (((L.take i).map low ++ L.drop i).length:Int):=by rw [xA];omega
    have h2:(0:Int) ≤ (i:Int):=by omega
    have h4:wrap64 ((i:Int) + 1) = ((i + 1:Nat):Int):=by rw [wrap64_in (by omega)];omega
    have hlt:i < L.length:=by omega
    have ih:=di.bY L hb n k (i + 1) (by omega) (by omega)
    have hs:=xm L i hlt
    have hq:=Bi L i hlt
    unfold di.l0
    rw [if_pos h0,if_pos h2,if_pos h1,zK L i hlt,h4,Int.toNat_natCast]
    generalize L[i] = y at hs hq
    by_cases h5:y ≥ 65
    · rw [if_pos h5]
      by_cases h6:y ≤ 90
      · rw [if_pos h6]
        have h7:low y = (y + 32) % 256:=by unfold low;rw [if_pos ⟨h5,h6⟩]
        rw [← h7,hs,ih]
      · rw [if_neg h6,hq (by unfold low;rw [if_neg (by omega)]),ih]
    · rw [if_neg h5,hq (by unfold low;rw [if_neg (by omega)]),ih]
theorem E5 (a:ByteArray):(bytesOf a).length = a.size:=by simp [bytesOf]
theorem qC (a:ByteArray) (k:Nat) (hb:a.size ≤ 1048576) (hk:a.size < k):di.f k a = some (strOfNums ((bytesOf a).map low)):=by
  have hl:=E5 a
  unfold di.f
  rw [if_pos (by omega),Option.bind_some]
  have:=di.bY (bytesOf a) (by unfold maxLen;omega) a.size k 0 (by omega) hk
  simpa using this
def jo (s:ByteArray):ByteArray:=strOfNums ((bytesOf s).map low)
def eH (name:ByteArray):List ag → ByteArray × Bool
  | []=>(⟨#[]⟩,false)
  | x :: xs=>if (jo x.f0).toList = (jo name).toList then (x.f1,true) else eH name xs
theorem gp.bY (l:List ag) (hl:lS l) (a:ByteArray) (ha:a.size ≤ 1048576):∀ (n k i:Nat),l.length = i + n → n + 1048577 < k → gp.l0 k l a (i:Int) = some (eH a (l.drop i))
  | _,0,_,_,h=>absurd h (by omega)
  | 0,k + 1,i,hi,_=>by
    have h1:¬ ((i:Int) < (l.length:Int)):=by omega
    rw [gp.l0,if_neg h1,List.drop_eq_nil_of_le (by omega)]
    rfl
  | n + 1,k + 1,i,hi,h=>by
    have hlt:i < l.length:=by omega
    have hb:=hl.1
    have h1:(i:Int) < (l.length:Int):=by omega
    have h2:(0:Int) ≤ (i:Int):=by omega
    obtain ⟨z0,z1⟩:=hl.2 l[i] (List.getElem_mem hlt)
    rw [gp.l0,if_pos h1,if_pos h2,wrap_succ i (by omega),gp.bY l hl a ha n k (i + 1) (by omega) (by omega),tJ l i hlt,qM _ k z0 (by omega),Option.bind_some,qM a k ha (by omega),Option.bind_some,List.drop_eq_getElem_cons hlt]
    show _ = some (if (jo l[i].f0).toList = (jo a).toList then (l[i].f1,true) else eH a (l.drop (i + 1)))
    unfold jo
    split <;> rfl
theorem gu.bY (l:List ag) (hl:lS l) (a:ByteArray) (ha:a.size ≤ 1048576):∀ (n k i:Nat),l.length = i + n → n + 1048577 < k → gu.l0 k a l (l.length:Int) (i:Int) = some (eH a (l.drop i))
  | _,0,_,_,h=>absurd h (by omega)
  | 0,k + 1,i,hi,_=>by
    have h1:¬ ((i:Int) < (l.length:Int)):=by omega
    rw [gu.l0,if_neg h1,List.drop_eq_nil_of_le (by omega)]
    rfl
  | n + 1,k + 1,i,hi,h=>by
    have hlt:i < l.length:=by omega
    have hb:=hl.1
    have h1:(i:Int) < (l.length:Int):=by omega
    have h2:(0:Int) ≤ (i:Int):=by omega
    obtain ⟨z0,z1⟩:=hl.2 l[i] (List.getElem_mem hlt)
    rw [gu.l0,if_pos h1,if_pos h2,if_pos h1,wrap_succ i (by omega),gu.bY l hl a ha n k (i + 1) (by omega) (by omega),tJ l i hlt,qC _ k z0 (by omega),Option.bind_some,qC a k ha (by omega),Option.bind_some,List.drop_eq_getElem_cons hlt]
    show _ = some (if (jo l[i].f0).toList = (jo a).toList then (l[i].f1,true) else eH a (l.drop (i + 1)))
    unfold jo
    split <;> rfl
theorem AP (l:List ag) (hl:lS l) (a:ByteArray) (ha:a.size ≤ 1048576) (k:Nat) (hk:l.length + 1048577 < k):gp.f k l a = some (eH a l):=by
  have:=gp.bY l hl a ha l.length k 0 (by omega) hk
  unfold gp.f
  simpa using this
theorem Aq (l:List ag) (hl:lS l) (a:ByteArray) (ha:a.size ≤ 1048576) (k:Nat) (hk:l.length + 1048577 < k):gu.f k l a = some (eH a l):=by
  have:=gu.bY l hl a ha l.length k 0 (by omega) hk
  unfold gu.f
  simpa using this
theorem ry {α:Type} [DecidableEq α] {β:Type} (a b:α) (x y:β):(if a = b then x else y) = if b = a then x else y:=by
  by_cases h:a = b
  · rw [if_pos h,if_pos h.symm]
  · rw [if_neg h,if_neg (fun e=>h e.symm)]
theorem BJ (a:ByteArray) (hl:¬ (a.size:Int) > 1048576) (k0:Nat) (hk0:a.size < k0):∃ v c,eU.f (k0 + 7) a = some v ∧ jS.f (k0 + 7) a = some (c,v):=by
  have e1:∀ j,1 ≤ j → dG.f (k0 + j) a = _:=fun j hj=>qM a (k0 + j) (by omega) (by omega)
  have e2:di.f (k0 + 7) a = _:=qC a (k0 + 7) (by omega) (by omega)
  have w1:wrap64 (1 + 1) = 2:=by decide +kernel
  have w2:wrap64 (2 + 1) = 3:=by decide +kernel
  have w3:wrap64 (3 + 1) = 4:=by decide +kernel
  have w4:wrap64 (4 + 1) = 5:=by decide +kernel
  have w5:wrap64 (5 + 1) = 6:=by decide +kernel
  have w0:wrap64 (0 + 1) = 1:=by decide +kernel
  generalize strOfNums ((bytesOf a).map low) = s at e1 e2
  have n1:mJ.f 1 = some ⟨#[117,115,45,97,115,99,105,105]⟩:=by rfl
  have n2:mJ.f 2 = some ⟨#[105,115,111,45,56,56,53,57,45,49]⟩:=by rfl
  have n3:mJ.f 3 = some ⟨#[105,115,111,45,56,56,53,57,45,53]⟩:=by rfl
  have n4:mJ.f 4 = some ⟨#[117,116,102,45,56]⟩:=by rfl
  have n5:mJ.f 5 = some ⟨#[117,116,102,45,49,54]⟩:=by rfl
  have hs:eU.f (k0 + 7) a = some (if (⟨#[117,115,45,97,115,99,105,105]⟩ : ByteArray).toList = s.toList then 1 else if (⟨#[105,115,111,45,56,56,53,57,45,49]⟩ : ByteArray).toList = s.toList then 2 else if (⟨#[105,115,111,45,56,56,53,57,45,53]⟩ : ByteArray).toList = s.toList then 3 else if (⟨#[117,116,102,45,56]⟩ : ByteArray).toList = s.toList then 4 else if (⟨#[117,116,102,45,49,54]⟩ : ByteArray).toList = s.toList then 5 else 0):=by
    unfold eU.f
    unfold eU.l0
    rw [if_pos (by decide),n1,Option.bind_some,e1 6 (by omega),Option.bind_some]
    split
    · rfl
    rw [w1];unfold eU.l0
    rw [if_pos (by decide),n2,Option.bind_some,e1 5 (by omega),Option.bind_some]
    split
    · rfl
    rw [w2];unfold eU.l0
    rw [if_pos (by decide),n3,Option.bind_some,e1 4 (by omega),Option.bind_some]
    split
    · rfl
    rw [w3];unfold eU.l0
    rw [if_pos (by decide),n4,Option.bind_some,e1 3 (by omega),Option.bind_some]
    split
    · rfl
    rw [w4];unfold eU.l0
    rw [if_pos (by decide),n5,Option.bind_some,e1 2 (by omega),Option.bind_some]
    split
    · rfl
    rw [w5];unfold eU.l0
    rw [if_neg (by decide)]
  have hx:fJ.f (k0 + 7) [(⟨#[117,115,45,97,115,99,105,105]⟩ : ByteArray),(⟨#[105,115,111,45,56,56,53,57,45,49]⟩ : ByteArray),(⟨#[105,115,111,45,56,56,53,57,45,53]⟩ : ByteArray),(⟨#[117,116,102,45,56]⟩ : ByteArray),(⟨#[117,116,102,45,49,54]⟩ : ByteArray)] s = some (if (⟨#[117,115,45,97,115,99,105,105]⟩ : ByteArray).toList = s.toList then 0 else if (⟨#[105,115,111,45,56,56,53,57,45,49]⟩ : ByteArray).toList = s.toList then 1 else if (⟨#[105,115,111,45,56,56,53,57,45,53]⟩ : ByteArray).toList = s.toList then 2 else if (⟨#[117,116,102,45,56]⟩ : ByteArray).toList = s.toList then 3 else if (⟨#[117,116,102,45,49,54]⟩ : ByteArray).toList = s.toList then 4  else -1):=by
    unfold fJ.f
    rw [show (([(⟨#[117,115,45,97,115,99,105,105]⟩ : ByteArray),(⟨#[105,115,111,45,56,56,53,57,45,49]⟩ : ByteArray),(⟨#[105,115,111,45,56,56,53,57,45,53]⟩ : ByteArray),(⟨#[117,116,102,45,56]⟩ : ByteArray),(⟨#[117,116,102,45,49,54]⟩ : ByteArray)].length:Nat):Int) = 5 from rfl]
    unfold fJ.l0
    rw [if_pos (by decide),if_pos (by decide),if_pos (by decide),show bU ByteArray.empty [(⟨#[117,115,45,97,115,99,105,105]⟩ : ByteArray),(⟨#[105,115,111,45,56,56,53,57,45,49]⟩ : ByteArray),(⟨#[105,115,111,45,56,56,53,57,45,53]⟩ : ByteArray),(⟨#[117,116,102,45,56]⟩ : ByteArray),(⟨#[117,116,102,45,49,54]⟩ : ByteArray)] 0 = (⟨#[117,115,45,97,115,99,105,105]⟩ : ByteArray) from rfl,ry s.toList]
    split
    · rfl
    rw [w0]
    unfold fJ.l0
    rw [if_pos (by decide),if_pos (by decide),if_pos (by decide),show bU ByteArray.empty [(⟨#[117,115,45,97,115,99,105,105]⟩ : ByteArray),(⟨#[105,115,111,45,56,56,53,57,45,49]⟩ : ByteArray),(⟨#[105,115,111,45,56,56,53,57,45,53]⟩ : ByteArray),(⟨#[117,116,102,45,56]⟩ : ByteArray),(⟨#[117,116,102,45,49,54]⟩ : ByteArray)] 1 = (⟨#[105,115,111,45,56,56,53,57,45,49]⟩ : ByteArray) from rfl,ry s.toList]
    split
    · rfl
    rw [w1]
    unfold fJ.l0
    rw [if_pos (by decide),if_pos (by decide),if_pos (by decide),show bU ByteArray.empty [(⟨#[117,115,45,97,115,99,105,105]⟩ : ByteArray),(⟨#[105,115,111,45,56,56,53,57,45,49]⟩ : ByteArray),(⟨#[105,115,111,45,56,56,53,57,45,53]⟩ : ByteArray),(⟨#[117,116,102,45,56]⟩ : ByteArray),(⟨#[117,116,102,45,49,54]⟩ : ByteArray)] 2 = (⟨#[105,115,111,45,56,56,53,57,45,53]⟩ : ByteArray) from rfl,ry s.toList]
    split
    · rfl
    rw [w2]
    unfold fJ.l0
    rw [if_pos (by decide),if_pos (by decide),if_pos (by decide),show bU ByteArray.empty [(⟨#[117,115,45,97,115,99,105,105]⟩ : ByteArray),(⟨#[105,115,111,45,56,56,53,57,45,49]⟩ : ByteArray),(⟨#[105,115,111,45,56,56,53,57,45,53]⟩ : ByteArray),(⟨#[117,116,102,45,56]⟩ : ByteArray),(⟨#[117,116,102,45,49,54]⟩ : ByteArray)] 3 = (⟨#[117,116,102,45,56]⟩ : ByteArray) from rfl,ry s.toList]
    split
    · rfl
    rw [w3]
    unfold fJ.l0
    rw [if_pos (by decide),if_pos (by decide),if_pos (by decide),show bU ByteArray.empty [(⟨#[117,115,45,97,115,99,105,105]⟩ : ByteArray),(⟨#[105,115,111,45,56,56,53,57,45,49]⟩ : ByteArray),(⟨#[105,115,111,45,56,56,53,57,45,53]⟩ : ByteArray),(⟨#[117,116,102,45,56]⟩ : ByteArray),(⟨#[117,116,102,45,49,54]⟩ : ByteArray)] 4 = (⟨#[117,116,102,45,49,54]⟩ : ByteArray) from rfl,ry s.toList]
    split
    · rfl
    rw [w4]
    unfold fJ.l0
    rw [if_neg (by decide)]
  simp only [jS.f,oQ.f,hs,hx,e2,Option.bind_some]
  split
  · exact ⟨_,_,rfl,by simp +decide [show wrap64 1 = 1 from by decide +kernel];rfl⟩
  split
  · exact ⟨_,_,rfl,by simp +decide [show wrap64 2 = 2 from by decide +kernel];rfl⟩
  split
  · exact ⟨_,_,rfl,by simp +decide [show wrap64 3 = 3 from by decide +kernel];rfl⟩
  split
  · exact ⟨_,_,rfl,by simp +decide [show wrap64 4 = 4 from by decide +kernel];rfl⟩
  split
  · exact ⟨_,_,rfl,by simp +decide [show wrap64 5 = 5 from by decide +kernel];rfl⟩
  · exact ⟨_,_,rfl,by simp;rfl⟩
def jg (s:ByteArray):Nat → Nat → Nat → List (Nat × Nat) → List (Nat × Nat)
  | 0,pos,fr,acc=>if fr < pos then acc ++ [(fr,pos)] else acc
  | f + 1,pos,fr,acc =>
    if pos < s.size then
      if (s.get! pos).toNat = 59 then jg s f (pos + 1) (pos + 1) (if fr < pos then acc ++ [(fr,pos)] else acc) else jg s f (pos + 1) fr acc
    else if fr < pos then acc ++ [(fr,pos)] else acc
theorem zU (s:ByteArray) (i:Nat) (h:(s.get! i).toNat < 128):Utf8.decode s i = ((s.get! i).toNat,1):=by
  unfold Utf8.decode
  simp only [Nat.add_zero]
  rw [if_pos (by omega)]
theorem En (s:ByteArray) (i:Nat) (h:128 ≤ (s.get! i).toNat):128 ≤ (Utf8.decode s i).1 ∧ 1 ≤ (Utf8.decode s i).2 ∧ (Utf8.decode s i).2 ≤ 4 ∧ ∀ k,1 ≤ k → k < (Utf8.decode s i).2 → i + k < s.size ∧ 128 ≤ (s.get! (i + k)).toNat:=by
  unfold Utf8.decode
  simp only [Nat.add_zero]
  rw [if_neg (by omega)]
  have hc:∀ k,(decide (i + k < s.size) && (s.get! (i + k)).toNat / 64 == 2) = true → i + k < s.size ∧ 128 ≤ (s.get! (i + k)).toNat:=by
    intro k hk
    simp only [Bool.and_eq_true,decide_eq_true_eq,beq_iff_eq] at hk
    exact ⟨hk.1,by omega⟩
  have h1:∀ x:Nat,128 ≤ x → 128 ≤ (x,1).1 ∧ 1 ≤ (x,1).2 ∧ (x,1).2 ≤ 4 ∧ ∀ k,1 ≤ k → k < (x,1).2 → i + k < s.size ∧ 128 ≤ (s.get! (i + k)).toNat:=fun x hx=>⟨hx,Nat.le_refl _,by simp,fun k a b=>by simp at b;omega⟩
  split
  · rename_i hb
    simp only [Bool.and_eq_true] at hb
    split
    · refine ⟨by assumption,by simp,by simp,fun k a b=>?_⟩
      have:k = 1:=by simp at b;omega
      subst this
      exact hc 1 (by simpa using hb.2)
    · exact h1 _ (by decide)
  · split
    · rename_i hb
      simp only [Bool.and_eq_true] at hb
      split
      · rename_i hv
        simp only [ge_iff_le,Bool.and_eq_true,decide_eq_true_eq] at hv
        refine ⟨by omega,by simp,by simp,fun k a b=>?_⟩
        have:k = 1 ∨ k = 2:=by simp at b;omega
        rcases this with rfl | rfl
        · exact hc 1 (by simpa using hb.1.2)
        · exact hc 2 (by simpa using hb.2)
      · exact h1 _ (by decide)
    · split
      · rename_i hb
        simp only [Bool.and_eq_true] at hb
        split
        · rename_i hv
          simp only [ge_iff_le,Bool.and_eq_true,decide_eq_true_eq] at hv
          refine ⟨by omega,by simp,by simp,fun k a b=>?_⟩
          have:k = 1 ∨ k = 2 ∨ k = 3:=by simp at b;omega
          rcases this with rfl | rfl | rfl
          · exact hc 1 (by simpa using hb.1.1.2)
          · exact hc 2 (by simpa using hb.1.2)
          · exact hc 3 (by simpa using hb.2)
        · exact h1 _ (by decide)
      · exact h1 _ (by decide)
theorem zf (s:ByteArray) (f pos fr:Nat) (acc:List (Nat × Nat)) (h:¬ pos < s.size):jg s f pos fr acc = if fr < pos then acc ++ [(fr,pos)] else acc:=by
  cases f with
  | zero=>rfl
  | succ f=>rw [jg,if_neg h]
theorem zM (s:ByteArray):∀ (w f pos fr:Nat) (acc:List (Nat × Nat)),(∀ k,k < w → pos + k < s.size ∧ (s.get! (pos + k)).toNat ≠ 59) → jg s (f + w) pos fr acc = jg s f (pos + w) fr acc
  | 0,_,_,_,_,_=>rfl
  | w + 1,f,pos,fr,acc,h=>by
    have h0:=h 0 (by omega)
    simp only [Nat.add_zero] at h0
    rw [show f + (w + 1) = (f + w) + 1 from rfl,jg,if_pos h0.1,if_neg h0.2,zM s w f (pos + 1) fr acc (fun k hk=>by
      have:=h (k + 1) (by omega)
      rwa [show pos + 1 + k = pos + (k + 1) by omega]),show pos + 1 + w = pos + (w + 1) by omega]
theorem EX (s:ByteArray):∀ (f g pos fr:Nat) (st:Option Nat) (acc:List (Nat × Nat)),s.size ≤ pos + f → s.size ≤ pos + g → fr ≤ pos → pos ≤ s.size → st = (if fr < pos then some fr else none) →
    Lib.closeSpans s (Lib.spansFromP (fun n=>n == 59) s f pos st acc) = jg s g pos fr acc:=by
  intro f
  induction f with
  | zero =>
    intro g pos fr st acc h1 h2 h3 h4 h5
    rw [Lib.spansFromP_end _ _ _ _ _ _ (by omega),zf _ _ _ _ _ (by omega),h5]
    have:pos = s.size:=by omega
    by_cases h:fr < pos
    · rw [if_pos h,if_pos h,this];rfl
    · rw [if_neg h,if_neg h];rfl
  | succ f ih =>
    intro g pos fr st acc h1 h2 h3 h4 h5
    by_cases hp:pos < s.size
    · unfold Lib.spansFromP
      rw [if_pos hp]
      obtain ⟨g,rfl⟩ : ∃ g',g = g' + 1:=⟨g - 1,by omega⟩
      by_cases hs:(s.get! pos).toNat = 59
      · have hd:=zU s pos (by omega)
        rw [hd,hs]
        simp only [beq_self_eq_true,if_true]
        rw [jg,if_pos hp,if_pos hs]
        by_cases h:fr < pos
        · rw [h5,if_pos h,if_pos h]
          exact ih g (pos + 1) (pos + 1) none _ (by omega) (by omega) (Nat.le_refl _) (by omega) (by rw [if_neg (Nat.lt_irrefl _)])
        · rw [h5,if_neg h,if_neg h]
          exact ih g (pos + 1) (pos + 1) none _ (by omega) (by omega) (Nat.le_refl _) (by omega) (by rw [if_neg (Nat.lt_irrefl _)])
      · obtain ⟨r1,r2,r3⟩ : (Utf8.decode s pos).1 ≠ 59 ∧ 1 ≤ (Utf8.decode s pos).2 ∧ ∀ k,k < (Utf8.decode s pos).2 → pos + k < s.size ∧ (s.get! (pos + k)).toNat ≠ 59:=by
          by_cases hl:(s.get! pos).toNat < 128
          · rw [zU s pos hl]
            refine ⟨hs,Nat.le_refl _,fun k hk=>?_⟩
            have:k = 0:=by simp at hk;omega
            subst this
            exact ⟨hp,hs⟩
          · obtain ⟨q1,q2,q3,q4⟩:=En s pos (by omega)
            refine ⟨by omega,q2,fun k hk=>?_⟩
            rcases Nat.eq_zero_or_pos k with rfl | hk0
            · exact ⟨hp,hs⟩
            · have:=q4 k hk0 hk
              exact ⟨this.1,by omega⟩
        generalize Utf8.decode s pos = dd at r1 r2 r3
        obtain ⟨r,w⟩:=dd
        simp only at r1 r2 r3 ⊢
        rw [if_neg (by simpa using r1)]
        have hw:=r3 (w - 1) (by omega)
        have key:Lib.closeSpans s (Lib.spansFromP (fun n=>n == 59) s f (pos + w) (some fr) acc) = jg s (g + 1) pos fr acc:=by
          by_cases hgw:w ≤ g + 1
          · rw [show g + 1 = (g + 1 - w) + w by omega,zM s w _ _ _ _ r3]
            exact ih _ (pos + w) fr _ acc (by omega) (by omega) (by omega) (by omega) (by rw [if_pos (by omega)])
          · omega
        by_cases h:fr < pos
        · rw [if_pos h] at h5
          subst h5
          exact key
        · rw [if_neg h] at h5
          subst h5
          have e:pos = fr:=by omega
          rw [← key,← e]
    · rw [Lib.spansFromP_end _ _ _ _ _ _ hp,zf _ _ _ _ _ hp,h5]
      have:pos = s.size:=by omega
      by_cases h:fr < pos
      · rw [if_pos h,if_pos h,this];rfl
      · rw [if_neg h,if_neg h];rfl
theorem Ce (s:ByteArray):Lib.goFieldsP (fun n=>n == 59) s = (jg s s.size 0 0 []).map fun x=>s.extract x.1 x.2:=by
  unfold Lib.goFieldsP Lib.spansOfP
  rw [EX s s.size s.size 0 0 none [] (by omega) (by omega) (Nat.le_refl _) (Nat.zero_le _) rfl]
def fK (l:List UInt8):ByteArray:=⟨l.toArray⟩
theorem sS (x:ByteArray):fK x.data.toList = x:=by unfold fK;rw [Array.toArray_toList]
theorem ug (l:List UInt8):(fK l).size = l.length:=by show l.toArray.size = _;simp
theorem uh (l:List UInt8):(fK l).toList = l:=by rw [Go.ByteArray.toList_eq];simp [fK]
theorem wU (l:List UInt8) (i:Nat) (h:i < l.length):bt (fK l) (i:Int) = (l[i].toNat:Int):=by
  have e:bytesOf (fK l) = l.map fun b=>(b.toNat:Int):=by simp [bytesOf,fK]
  rw [← zZ,e,kD _ i (by simpa using h)]
  simp
theorem xk {a b:ByteArray} (h:a.data.toList = b.data.toList):a = b:=by
  have:=congrArg fK h
  rwa [sS,sS] at this
theorem EG (l:List UInt8):(fK l).extract 1 (fK l).size = fK (l.drop 1):=by
  apply xk
  rw [ByteArray.data_extract,Array.toList_extract,ug]
  simp [fK,List.extract]
  exact List.take_of_length_le (by simp)
theorem BI (l:List UInt8) (n:Nat):(fK l).extract 0 n = fK (l.take n):=by
  apply xk
  rw [ByteArray.data_extract,Array.toList_extract]
  simp [fK,List.extract]
def cs2:List UInt8:=[32,9]
theorem qh (c:UInt8):cs2.contains c = true ↔ (c.toNat:Int) = 32 ∨ (c.toNat:Int) = 9:=by
  have e:∀ d:UInt8,c = d ↔ c.toNat = d.toNat:=fun d=>⟨fun h=>by rw [h],fun h=>UInt8.toNat_inj.1 h⟩
  simp only [cs2,List.contains_cons,List.contains_nil,Bool.or_false,Bool.or_eq_true,beq_iff_eq]
  rw [e 32,e 9]
  show (c.toNat = 32 ∨ c.toNat = 9) ↔ _
  omega
theorem Ci (m:List UInt8) (c:UInt8):Lib.trimRightS (m ++ [c]) cs2 = if cs2.contains c = true then Lib.trimRightS m cs2 else m ++ [c]:=by
  unfold Lib.trimRightS
  rw [List.reverse_append,List.reverse_singleton,List.singleton_append,List.dropWhile_cons]
  split <;> simp
theorem bZ.pU:∀ (n k:Nat) (l:List UInt8),l.length = n → n < k → n ≤ 1048576 → bZ.l1 k (fK l) = some (fK (Lib.trimRightS l cs2))
  | _,0,_,_,h,_=>absurd h (by omega)
  | 0,k + 1,l,hl,_,_=>by
    have:l = []:=List.eq_nil_of_length_eq_zero hl
    subst this
    rw [bZ.l1,uh,if_pos rfl]
    rfl
  | n + 1,k + 1,l,hl,hk,hm=>by
    have hne:l ≠ []:=by intro e;subst e;simp at hl
    obtain ⟨m,c,rfl⟩ : ∃ m c,l = m ++ [c]:=⟨l.dropLast,l.getLast hne,(List.dropLast_concat_getLast hne).symm⟩
    have hml:m.length = n:=by simpa using hl
    have hsz:(fK (m ++ [c])).size = n + 1:=by rw [ug];simp [hml]
    have hw:wrap64 (((n + 1:Nat):Int) - 1) = (n:Int):=by rw [wrap64_in (by omega)];omega
    have hb:bt (fK (m ++ [c])) (n:Int) = (c.toNat:Int):=by
      rw [wU _ n (by simp [hml])]
      congr 2
      rw [List.getElem_append_right (by omega)]
      simp [hml]
    have hx:(fK (m ++ [c])).extract 0 ((n:Int)).toNat = fK m:=by
      rw [Int.toNat_natCast,BI,← hml];simp
    have ih:=bZ.pU n k m hml (by omega) (by omega)
    rw [bZ.l1,uh,if_neg (by simp),hsz,hw,if_pos (by omega),if_pos (by omega),hb,if_pos (show (n:Int) ≤ ((n + 1:Nat):Int) by omega),hx,ih,Ci]
    by_cases c1:(c.toNat:Int) = 32
    · rw [if_pos c1,if_pos ((qh c).2 (.inl c1))]
    · rw [if_neg c1]
      by_cases c2:(c.toNat:Int) = 9
      · rw [if_pos c2,if_pos ((qh c).2 (.inr c2))]
      · rw [if_neg c2,if_neg (fun h=>by have:=(qh c).1 h;omega)]
theorem bZ.bY:∀ (l:List UInt8) (k:Nat),2 * l.length + 3 < k → l.length ≤ 1048576 → bZ.l0 k (fK l) = some (fK (Lib.trimRightS (Lib.trimLeftS l cs2) cs2))
  | l,0,h,_=>absurd h (by omega)
  | [],k + 1,hk,_=>by
    obtain ⟨k,rfl⟩ : ∃ m,k = m + 1:=⟨k - 1,by simp at hk;omega⟩
    rw [bZ.l0,uh,if_pos rfl,bZ.j1,bZ.pU 0 k [] rfl (by simp at hk;omega) (by omega)]
    rfl
  | c :: m,k + 1,hk,hm=>by
    obtain ⟨k,rfl⟩ : ∃ q,k = q + 1:=⟨k - 1,by simp at hk;omega⟩
    simp only [List.length_cons] at hk hm
    have hsz:(fK (c :: m)).size = m.length + 1:=by rw [ug];simp
    have hb:bt (fK (c :: m)) 0 = (c.toNat:Int):=by
      have:=wU (c :: m) 0 (by simp)
      simpa using this
    have hx:(fK (c :: m)).extract 1 (fK (c :: m)).size = fK m:=by rw [EG];rfl
    have ih:=bZ.bY m (k + 1) (by omega) (by omega)
    have hj:bZ.j1 (k + 1) (fK (c :: m)) = some (fK (Lib.trimRightS (c :: m) cs2)):=by
      rw [bZ.j1,bZ.pU (m.length + 1) k (c :: m) (by simp) (by omega) (by omega)]
    have hd:Lib.trimLeftS (c :: m) cs2 = if cs2.contains c = true then Lib.trimLeftS m cs2 else c :: m:=by
      unfold Lib.trimLeftS;rw [List.dropWhile_cons]
    rw [bZ.l0,uh,if_neg (by simp),hx,hb,hsz,if_pos (by omega),if_pos (show (1:Int) ≤ ((m.length + 1:Nat):Int) by omega),ih,hj,hd]
    by_cases c1:(c.toNat:Int) = 32
    · rw [if_pos c1,if_pos ((qh c).2 (.inl c1))]
    · rw [if_neg c1]
      by_cases c2:(c.toNat:Int) = 9
      · rw [if_pos c2,if_pos ((qh c).2 (.inr c2))]
      · rw [if_neg c2,if_neg (fun h=>by have:=(qh c).1 h;omega)]
theorem Dk (l:List UInt8):Lib.trimRightS (Lib.trimLeftS l cs2) cs2 = Lib.trimLeftS (Lib.trimRightS l cs2) cs2:=by
  have hc:∀ (x:UInt8) (m:List UInt8),Lib.trimRightS (x :: m) cs2 = if Lib.trimRightS m cs2 = [] then (if cs2.contains x = true then [] else [x]) else x :: Lib.trimRightS m cs2:=by
    intro x m
    unfold Lib.trimRightS
    rw [List.reverse_cons,List.dropWhile_append]
    cases h:m.reverse.dropWhile (cs2.contains ·) with
    | nil =>
      simp only [List.isEmpty_nil,if_true,List.reverse_nil,List.dropWhile_cons,List.dropWhile_nil]
      split <;> rfl
    | cons y t=>simp
  induction l with
  | nil=>rfl
  | cons x m ih =>
    by_cases h:cs2.contains x = true
    · have e:Lib.trimLeftS (x :: m) cs2 = Lib.trimLeftS m cs2:=by unfold Lib.trimLeftS;rw [List.dropWhile_cons,if_pos h]
      rw [e,ih,hc,if_pos h]
      by_cases g:Lib.trimRightS m cs2 = []
      · rw [if_pos g,g]
      · rw [if_neg g]
        unfold Lib.trimLeftS
        rw [List.dropWhile_cons,if_pos h]
    · have e:Lib.trimLeftS (x :: m) cs2 = x :: m:=by unfold Lib.trimLeftS;rw [List.dropWhile_cons,if_neg h]
      rw [e,hc,if_neg h]
      by_cases g:Lib.trimRightS m cs2 = []
      · rw [if_pos g];unfold Lib.trimLeftS;rw [List.dropWhile_cons,if_neg h]
      · rw [if_neg g];unfold Lib.trimLeftS;rw [List.dropWhile_cons,if_neg h]
def kL (x:ByteArray):ByteArray:=fK (Lib.trimS x.data.toList cs2)
theorem FC (x:ByteArray):(kL x).size ≤ x.size:=by
  have h1:∀ (p:UInt8 → Bool) (l:List UInt8),(l.dropWhile p).length ≤ l.length:=fun p l=>(List.dropWhile_sublist p).length_le
  have h2:x.size = x.data.toList.length:=by show x.data.size = _;simp
  unfold kL
  rw [ug,h2]
  unfold Lib.trimS Lib.trimLeftS Lib.trimRightS
  refine Nat.le_trans (h1 _ _) ?_
  rw [List.length_reverse]
  refine Nat.le_trans (h1 _ _) ?_
  rw [List.length_reverse]
  exact Nat.le_refl _
theorem GH (x:ByteArray) (hx:x.size ≤ 1048576) (k:Nat) (hk:2 * x.size + 3 < k):bZ.f k x = some (kL x):=by
  have h2:x.size = x.data.toList.length:=by show x.data.size = _;simp
  have:=bZ.bY x.data.toList k (by omega) (by omega)
  rw [sS,Dk] at this
  exact this
theorem Eb (x:ByteArray) (hx:x.size ≤ 1048576):lL.f x (⟨#[32,9]⟩ : ByteArray) = some (kL x):=by
  unfold lL.f
  rw [if_pos ⟨by omega,by decide,by decide⟩]
  rfl
theorem get_bt (s:ByteArray) (i:Nat) (h:i < s.size):bt s (i:Int) = ((s.get! i).toNat:Int):=by
  have h2:s.size = s.data.toList.length:=by show s.data.size = _;simp
  have e:=wU s.data.toList i (by omega)
  rw [sS] at e
  rw [e]
  congr 2
  show _ = s.data[i]!
  have hd:i < s.data.size:=h
  rw [getElem!_pos s.data i hd,Array.getElem_toList]
theorem extract_size (s:ByteArray) (a b:Nat):(s.extract a b).size ≤ s.size:=by
  rw [ByteArray.size_extract];omega
theorem cO.bY (s:ByteArray) (hs:s.size ≤ 1048576):∀ (n k i fr:Nat) (acc:List (Nat × Nat)),s.size = i + n → 2 * n + 2097170 < k → fr ≤ i → acc.length ≤ i → cO.l0 k s (acc.map fun x=>kL (s.extract x.1 x.2)) (fr:Int) (i:Int) = some ((jg s n i fr acc).map fun x=>kL (s.extract x.1 x.2))
  | n,k,i,fr,acc,hi,hk,hf,ha=>by
    obtain ⟨k,rfl⟩ : ∃ q,k = q + 2:=⟨k - 2,by omega⟩
    have w1:wrap64 ((i:Int) + 1) = ((i + 1:Nat):Int):=by rw [wrap64_in (by omega)];omega
    have hal:(acc.map fun x=>kL (s.extract x.1 x.2)).length < 8796093022208:=by simp;omega
    have hj:∀ b:Bool,cO.j1 (k + 1) s (acc.map fun x=>kL (s.extract x.1 x.2)) (fr:Int) (i:Int) b = if b = true then (if fr < i then cO.l0 k s ((acc ++ [(fr,i)]).map fun x=>kL (s.extract x.1 x.2)) ((i + 1:Nat):Int) ((i + 1:Nat):Int) else cO.l0 k s (acc.map fun x=>kL (s.extract x.1 x.2)) ((i + 1:Nat):Int) ((i + 1:Nat):Int)) else cO.l0 k s (acc.map fun x=>kL (s.extract x.1 x.2)) (fr:Int) ((i + 1:Nat):Int):=by
      intro b
      rw [cO.j1,w1]
      by_cases hb:b = true
      · rw [if_pos hb,if_pos hb]
        by_cases c:fr < i
        · have hes:=extract_size s fr i
          rw [if_pos (by omega),if_pos (by omega),if_pos (by omega),if_pos (by omega),if_pos c,Int.toNat_natCast,Int.toNat_natCast,GH _ (by omega) k (by omega),Option.bind_some,if_pos hal]
          simp
        · rw [if_neg (by omega),if_neg c]
      · rw [if_neg hb,if_neg hb]
    rw [cO.l0,if_pos (by omega)]
    match n,hi,hk with
    | 0,hi,hk =>
      obtain ⟨k,rfl⟩ : ∃ q,k = q + 1:=⟨k - 1,by omega⟩
      have hend:∀ (o:List ByteArray),cO.l0 (k + 1) s o ((i + 1:Nat):Int) ((i + 1:Nat):Int) = some o:=fun o=>by rw [cO.l0,if_neg (by omega)]
      rw [if_pos (by omega),hj,if_pos rfl,hend,hend,jg]
      split <;> rfl
    | n + 1,hi,hk =>
      rw [if_neg (by omega),if_pos (by omega),if_pos (by omega),hj,get_bt s i (by omega),jg,if_pos (show i < s.size by omega)]
      by_cases c:(s.get! i).toNat = 59
      · have cb:(((s.get! i).toNat:Int) == 59) = true:=by rw [beq_iff_eq];omega
        rw [if_pos c,if_pos cb]
        by_cases d:fr < i
        · rw [if_pos d,if_pos d]
          exact cO.bY s hs n k (i + 1) (i + 1) _ (by omega) (by omega) (Nat.le_refl _) (by first | (simp;done) | (simp;omega))
        · rw [if_neg d,if_neg d]
          exact cO.bY s hs n k (i + 1) (i + 1) _ (by omega) (by omega) (Nat.le_refl _) (by omega)
      · have cb:¬ (((s.get! i).toNat:Int) == 59) = true:=by rw [beq_iff_eq];omega
        rw [if_neg c,if_neg cb]
        exact cO.bY s hs n k (i + 1) fr _ (by omega) (by omega) (by omega) (by omega)
theorem uq (s:ByteArray):∀ (n i fr:Nat) (acc:List (Nat × Nat)),(jg s n i fr acc).length ≤ acc.length + n + 1
  | 0,i,fr,acc=>by rw [jg];split <;> simp
  | n + 1,i,fr,acc=>by
    have e:(if fr < i then acc ++ [(fr,i)] else acc).length ≤ acc.length + 1:=by split <;> simp
    rw [jg]
    by_cases h1:i < s.size
    · rw [if_pos h1]
      by_cases h2:(s.get! i).toNat = 59
      · rw [if_pos h2]
        have:=uq s n (i + 1) (i + 1) (if fr < i then acc ++ [(fr,i)] else acc)
        omega
      · rw [if_neg h2]
        have:=uq s n (i + 1) fr acc
        omega
    · rw [if_neg h1]
      omega
def iM (s:ByteArray):List ByteArray:=(jg s s.size 0 0 []).map fun x=>kL (s.extract x.1 x.2)
theorem vH (s:ByteArray):(iM s).length ≤ s.size + 1:=by
  have:=uq s s.size 0 0 []
  simp only [iM,List.length_map]
  simpa using this
theorem sO (s:ByteArray):∀ x ∈ iM s,x.size ≤ s.size:=by
  intro x hx
  obtain ⟨p,_,rfl⟩:=List.mem_map.1 hx
  exact Nat.le_trans (FC _) (extract_size s _ _)
theorem Ba (s:ByteArray) (hs:s.size ≤ 1048576) (k:Nat) (hk:4194400 < k):cO.f k s = some (iM s):=by
  have:=cO.bY s hs s.size k 0 0 [] (by omega) (by omega) (Nat.le_refl _) (Nat.le_refl _)
  exact this
theorem uQ (l:List ByteArray) (i:Nat) (h:i < l.length):bU ByteArray.empty l (i:Int) = l[i]:=by
  simp [bU,List.getD_eq_getElem?_getD,h]
theorem eF.bY (fs:List ByteArray) (hf:∀ x ∈ fs,x.size ≤ 1048576) (hl:fs.length ≤ 1048577):∀ (n k i:Nat) (out:List ByteArray),fs.length = i + n → n < k → out.length + n ≤ 2000000 → eF.l0 k out fs (fs.length:Int) (i:Int) = some (out ++ (fs.drop i).map kL)
  | _,0,_,_,_,h,_=>absurd h (by omega)
  | 0,k + 1,i,out,hi,_,_=>by
    rw [eF.l0,if_neg (by omega),List.drop_eq_nil_of_le (by omega)]
    simp
  | n + 1,k + 1,i,out,hi,h,ho=>by
    have w1:wrap64 ((i:Int) + 1) = ((i + 1:Nat):Int):=by rw [wrap64_in (by omega)];omega
    have hlt:i < fs.length:=by omega
    rw [eF.l0,if_pos (by omega),if_pos (by omega),if_pos (by omega),uQ fs i hlt,Eb _ (hf _ (List.getElem_mem hlt)),Option.bind_some,if_pos (by omega),w1,eF.bY fs hf hl n k (i + 1) _ (by omega) (by omega) (by first | (simp;done) | (simp;omega)),List.drop_eq_getElem_cons hlt,List.map_cons,List.append_assoc]
    rfl
theorem yz (s:ByteArray) (hs:s.size ≤ 1048576) (k:Nat) (hk:1048600 < k):eF.f k s = some (iM s):=by
  unfold eF.f strings_FieldsFunc.f
  rw [if_pos (by omega),Option.bind_some,Ce]
  have hlen:=uq s s.size 0 0 []
  have:=eF.bY ((jg s s.size 0 0 []).map fun x=>s.extract x.1 x.2) (fun x hx=>by
    obtain ⟨p,_,rfl⟩:=List.mem_map.1 hx
    exact Nat.le_trans (extract_size s _ _) hs) (by simp at hlen ⊢;omega) _ k 0 [] (by rw [Nat.zero_add]) (by simp at hlen ⊢;omega) (by simp at hlen ⊢;omega)
  rw [List.drop_zero,List.nil_append] at this
  rw [show ((0:Nat):Int) = 0 from rfl] at this
  rw [this]
  simp [iM,List.map_map,Function.comp]
def pf (a w:ByteArray):Bool:=decide (((bytesOf a).map low).take w.size = bytesOf w)
theorem eqStr (M:List Int) (h:∀ x ∈ M,0 ≤ x ∧ x ≤ 255) (w:ByteArray):((strOfNums M).toList == w.toList) = decide (M = bytesOf w):=by
  rw [Bool.eq_iff_iff,beq_iff_eq,decide_eq_true_eq]
  constructor
  · intro e
    rw [Go.ByteArray.toList_eq,Go.ByteArray.toList_eq] at e
    have:=xk e
    rw [← this,sU M h]
  · rintro rfl
    rw [yR]
theorem yx (x:Int) (h:0 ≤ x ∧ x ≤ 255):0 ≤ low x ∧ low x ≤ 255:=by unfold low;split <;> omega
theorem y9 (a:ByteArray):∀ x ∈ (bytesOf a).map low,0 ≤ x ∧ x ≤ 255:=by
  intro x hx
  obtain ⟨y,hy,rfl⟩:=List.mem_map.1 hx
  exact yx y (nJ a y hy)
theorem uZ (a:ByteArray):(bytesOf a).length = a.size:=by simp [bytesOf]
theorem vP (M:List Int) (w:ByteArray) (h:M.length < w.size):¬ M.take w.size = bytesOf w:=by
  intro e
  have:=congrArg List.length e
  rw [uZ,List.length_take] at this
  omega
theorem xZ (a w:ByteArray) (ha:a.size ≤ 1048576) (k:Nat) (hk:1048577 < k):gV.f k a w = some (pf a w):=by
  unfold gV.f
  by_cases c:(a.size:Int) ≥ (w.size:Int)
  · have hes:=extract_size a 0 w.size
    rw [if_pos c,if_pos (by omega),if_pos (by omega),Int.toNat_natCast,qM _ k (by omega) (by omega),Option.bind_some,wQ,List.drop_zero]
    rw [eqStr _ (fun x hx=>by
      obtain ⟨y,hy,rfl⟩:=List.mem_map.1 hx
      exact yx y (nJ a y (List.mem_of_mem_take hy)))]
    unfold pf
    rw [List.map_take]
  · rw [if_neg c]
    unfold pf
    rw [decide_eq_false (vP _ w (by rw [List.length_map,uZ];omega))]
theorem zG (M:List Int) (h:∀ x ∈ M,0 ≤ x ∧ x ≤ 255) (w:ByteArray):strings_HasPrefix.f (strOfNums M) w = some (decide (M.take w.size = bytesOf w)):=by
  unfold strings_HasPrefix.f stringslite_HasPrefix.f
  rw [strOfNums_size]
  by_cases c:(M.length:Int) ≥ (w.size:Int)
  · have hx:(strOfNums M).extract 0 w.size = strOfNums (M.take w.size):=by
      rw [← yR ((strOfNums M).extract 0 w.size),wQ,sU M h,List.drop_zero]
    rw [if_pos c,if_pos (by omega),if_pos (by omega),Option.bind_some,Int.toNat_natCast,hx,eqStr _ (fun x hx=>h x (List.mem_of_mem_take hx))]
  · rw [if_neg c,Option.bind_some,decide_eq_false (vP M w (by omega))]
theorem zy (a w:ByteArray) (h:pf a w = true):w.size ≤ a.size:=by
  rcases Nat.lt_or_ge a.size w.size with c | c
  · exact absurd (of_decide_eq_true h) (vP _ w (by rw [List.length_map,uZ];exact c))
  · exact c
def iL:List ByteArray → ByteArray → ByteArray × Bool
  | [],_=>((⟨#[]⟩ : ByteArray),false)
  | x :: r,w=>if pf x w = true then (x.extract w.size x.size,true) else iL r w
theorem dZ.bY (P:List ByteArray) (w:ByteArray) (hP:∀ x ∈ P,x.size ≤ 1048576) (hl:P.length ≤ 1048577):∀ (n k i:Nat),P.length = i + n → n + 1048578 < k → dZ.l0 k P w (i:Int) = some (iL (P.drop i) w)
  | _,0,_,_,h=>absurd h (by omega)
  | 0,k + 1,i,hi,_=>by
    rw [dZ.l0,if_neg (by omega),List.drop_eq_nil_of_le (by omega)]
    rfl
  | n + 1,k + 1,i,hi,h=>by
    have w1:wrap64 ((i:Int) + 1) = ((i + 1:Nat):Int):=by rw [wrap64_in (by omega)];omega
    have hlt:i < P.length:=by omega
    have hx:=hP P[i] (List.getElem_mem hlt)
    rw [dZ.l0,if_pos (by omega),if_pos (by omega),uQ P i hlt,xZ _ w hx k (by omega),Option.bind_some,w1,List.drop_eq_getElem_cons hlt,iL,dZ.bY P w hP hl n k (i + 1) (by omega) (by omega)]
    by_cases c:pf P[i] w = true
    · have:=zy _ _ c
      rw [if_pos c,if_pos c,if_pos (by omega),if_pos (by omega),Int.toNat_natCast]
    · rw [if_neg c,if_neg c]
theorem eu.bY (P:List ByteArray) (w:ByteArray) (hP:∀ x ∈ P,x.size ≤ 1048576) (hl:P.length ≤ 1048577):∀ (n k i:Nat),P.length = i + n → n + 1048578 < k → 1 ≤ i → eu.l0 k w P (P.length:Int) (i:Int) = some (iL (P.drop i) w)
  | _,0,_,_,h,_=>absurd h (by omega)
  | 0,k + 1,i,hi,_,_=>by
    rw [eu.l0,if_neg (by omega),List.drop_eq_nil_of_le (by omega)]
    rfl
  | n + 1,k + 1,i,hi,h,h1=>by
    have w1:wrap64 ((i:Int) + 1) = ((i + 1:Nat):Int):=by rw [wrap64_in (by omega)];omega
    have hlt:i < P.length:=by omega
    have hx:=hP P[i] (List.getElem_mem hlt)
    have hs:di.f k P[i] = _:=qC P[i] k hx (by omega)
    have hp:strings_HasPrefix.f (strOfNums ((bytesOf P[i]).map low)) w = some (pf P[i] w):=zG _ (y9 P[i]) w
    rw [eu.l0,if_pos (by omega),if_pos (by omega),if_pos (by omega),if_pos (by omega),uQ P i hlt,hs,Option.bind_some,hp,Option.bind_some,w1,List.drop_eq_getElem_cons hlt,iL,eu.bY P w hP hl n k (i + 1) (by omega) (by omega) (by omega)]
    by_cases c:pf P[i] w = true
    · have:=zy _ _ c
      rw [if_pos c,if_pos c,if_pos (by omega),if_pos (by omega),Int.toNat_natCast]
    · rw [if_neg c,if_neg c]
theorem vY:∀ (l:List ByteArray) (w:ByteArray) (N:Nat),(∀ x ∈ l,x.size ≤ N) → (iL l w).1.size ≤ N
  | [],w,N,_=>Nat.zero_le _
  | x :: r,w,N,h=>by
    rw [iL]
    split
    · exact Nat.le_trans (extract_size x _ _) (h x (by simp))
    · exact vY r w N (fun y hy=>h y (by simp [hy]))
theorem zX (P:List ByteArray) (w:ByteArray) (hP:∀ x ∈ P,x.size ≤ 1048576) (hl:P.length ≤ 1048577) (k:Nat) (hk:4194400 < k):dZ.f k P w = some (iL (P.drop 1) w):=by
  unfold dZ.f
  cases P with
  | nil =>
    obtain ⟨k,rfl⟩ : ∃ q,k = q + 1:=⟨k - 1,by omega⟩
    rw [dZ.l0,if_neg (by simp)]
    rfl
  | cons x r=>exact dZ.bY (x :: r) w hP hl r.length k 1 (by first | (simp;done) | (simp;omega)) (by simp at hl;omega)
theorem yX (s w:ByteArray) (hs:s.size ≤ 1048576) (k:Nat) (hk:4194400 < k):eu.f k s w = some (iL ((iM s).drop 1) w):=by
  have hl:=vH s
  have hP:∀ x ∈ iM s,x.size ≤ 1048576:=fun x hx=>Nat.le_trans (sO s x hx) hs
  unfold eu.f
  rw [yz s hs k (by omega),Option.bind_some]
  generalize iM s = P at hl hP
  obtain ⟨k,rfl⟩ : ∃ q,k = q + 1:=⟨k - 1,by omega⟩
  rw [eu.l0]
  cases P with
  | nil=>rw [if_neg (by simp)];rfl
  | cons x r =>
    rw [if_pos (by first | (simp;done) | (simp;omega)),if_pos (by omega),if_pos (by first | (simp;done) | (simp;omega)),if_neg (by omega)]
    have w1:wrap64 (0 + 1) = ((1:Nat):Int):=by decide +kernel
    rw [w1]
    exact eu.bY (x :: r) w hP (by omega) r.length k 1 (by first | (simp;done) | (simp;omega)) (by simp at hl;omega) (by omega)
theorem Aa (w:ByteArray) (h:0 < w.size):strings_HasPrefix.f (⟨#[]⟩ : ByteArray) w = some false:=by
  unfold strings_HasPrefix.f stringslite_HasPrefix.f
  rw [if_neg (by show ¬ ((0:Nat):Int) ≥ _;omega)]
  rfl
theorem FQ (a:ByteArray) (ha:a.size ≤ 1048576) (k0:Nat) (hk:8388608 < k0):∃ o,iY.f (k0 + 7 + 1) a = some o ∧ eQ.f (k0 + 7 + 1) a = some o:=by
  have hl:=vH a
  have hP:∀ x ∈ iM a,x.size ≤ 1048576:=fun x hx=>Nat.le_trans (sO a x hx) ha
  have e1:=Ba a ha (k0 + 7 + 1) (by omega)
  have e2:=yz a ha (k0 + 7 + 1) (by omega)
  have e3:=fun w=>yX a w ha (k0 + 7) (by omega)
  have e4:=fun w=>zX (iM a) w hP (by omega) (k0 + 7 + 1) (by omega)
  unfold iY.f eQ.f
  rw [e1,e2]
  simp only [Option.bind_some]
  generalize iM a = P at hl hP e3 e4
  cases P with
  | nil =>
    refine ⟨(3,0,0,0,0,0,0),?_,?_⟩
    · rw [if_pos (by simp)] <;> rfl
    · rw [if_neg (by simp),eQ.j0,Aa _ (by decide),Option.bind_some,if_neg (by decide),Aa _ (by decide),Option.bind_some,if_neg (by decide)]
  | cons x r =>
    have hx:=hP x (by simp)
    have r0:bU ByteArray.empty (x :: r) 0 = x:=by simp [bU]
    have b1:=fun w=>xZ x w hx (k0 + 7 + 1) (by omega)
    have s1:di.f (k0 + 7 + 1) x = _:=qC x (k0 + 7 + 1) hx (by omega)
    have h1:∀ w,strings_HasPrefix.f (strOfNums ((bytesOf x).map low)) w = some (pf x w):=fun w=>zG _ (y9 x) w
    rw [if_neg (by first | (simp;done) | (simp;omega)),if_pos (by first | (simp;done) | (simp;omega)),if_pos (by first | (simp;done) | (simp;omega)),if_pos (by first | (simp;done) | (simp;omega)),r0,s1,Option.bind_some,eQ.j0]
    simp only [b1,h1,e3,e4,Option.bind_some]
    by_cases c1:pf x (⟨#[109,117,108,116,105,112,97,114,116,47]⟩ : ByteArray) = true
    · exact ⟨(2,0,0,0,0,0,0),by rw [if_pos c1] <;> rfl,by rw [if_pos c1]⟩
    · by_cases c2:pf x (⟨#[116,101,120,116,47]⟩ : ByteArray) = true
      · have hsz:=vY ((x :: r).drop 1) (⟨#[99,104,97,114,115,101,116,61]⟩ : ByteArray) 1048576 (fun y hy=>hP y (List.mem_of_mem_drop hy))
        generalize iL ((x :: r).drop 1) (⟨#[99,104,97,114,115,101,116,61]⟩ : ByteArray) = o at hsz
        by_cases c3:o.2 = true
        · obtain ⟨v,c,q1,q2⟩:=BJ o.1 (by omega) k0 (by omega)
          have q3:=eU.mono o.1 (k0 + 7) v q1
          refine ⟨(1,v,0,0,0,0,0),?_,?_⟩
          · rw [if_neg c1,if_pos c2,if_pos c3,q3] <;> rfl
          · rw [if_neg c1,if_pos c2,if_pos c3,q2];rfl
        · exact ⟨(1,1,0,0,0,0,0),by rw [if_neg c1,if_pos c2,if_neg c3] <;> rfl,by rw [if_neg c1,if_pos c2,if_neg c3]⟩
      · exact ⟨(3,0,0,0,0,0,0),by rw [if_neg c1,if_neg c2] <;> rfl,by rw [if_neg c1,if_neg c2]⟩
theorem xP {α:Type} (f:Nat → Option α) (h:∀ k,aN (f k) (f (k + 1))) {k k':Nat} {r:α} (hk:k ≤ k') (e:f k = some r):f k' = some r:=by
  induction hk with
  | refl=>exact e
  | step _ ih=>exact h _ _ ih
def typ (a:ByteArray):Int × Int × Int × Int × Int × Int × Int:=(eQ.f (8400000 + 7 + 1) a).getD (0,0,0,0,0,0,0)
theorem wY (a:ByteArray) (ha:a.size ≤ 1048576) (k:Nat) (hk:9000000 < k):iY.f k a = some (typ a) ∧ eQ.f k a = some (typ a):=by
  obtain ⟨o,h1,h2⟩:=FQ a ha 8400000 (by omega)
  have e:typ a = o:=by unfold typ;rw [h2];rfl
  rw [e]
  exact ⟨xP (fun k=>iY.f k a) (fun k=>iY.mono a k) (by omega) h1,xP (fun k=>eQ.f k a) (fun k=>eQ.mono a k) (by omega) h2⟩
theorem vI (a b:ByteArray) (h:(jo a).toList = (jo b).toList):∀ l:List ag,eH a l = eH b l
  | []=>rfl
  | x :: xs=>by unfold eH;rw [h,vI a b h xs]
theorem ql (a:ByteArray):∀ l:List ag,(∀ x ∈ l,x.f1.size ≤ 1048576) → (eH a l).1.size ≤ 1048576
  | [],_=>by show (0:Nat) ≤ _;omega
  | x :: xs,h=>by
    unfold eH
    split
    · exact h x (by simp)
    · exact ql a xs (fun y hy=>h y (by simp [hy]))
def kF:ByteArray:=⟨#[99,111,110,116,101,110,116,45,116,114,97,110,115,102,101,114,45,101,110,99,111,100,105,110,103]⟩
def gK:ByteArray:=⟨#[99,111,110,116,101,110,116,45,116,121,112,101]⟩
def jX:ByteArray:=⟨#[98,111,117,110,100,97,114,121,61]⟩
theorem D6:(jo (⟨#[67,111,110,116,101,110,116,45,84,114,97,110,115,102,101,114,45,69,110,99,111,100,105,110,103]⟩ : ByteArray)).toList = (jo kF).toList:=by decide +kernel
theorem CQ:(jo (⟨#[67,111,110,116,101,110,116,45,84,121,112,101]⟩ : ByteArray)).toList = (jo gK).toList:=by decide +kernel
def mX (v:ByteArray):Int:=if (jo v).toList = ([98,97,115,101,54,52]:List UInt8) then 2 else if (jo v).toList = ([113,117,111,116,101,100,45,112,114,105,110,116,97,98,108,101]:List UInt8) then 3 else 1
theorem Gt (v:ByteArray) (hv:v.size ≤ 1048576) (k:Nat) (hk:1048577 < k):oC.f k v = some (mX v):=by
  unfold oC.f mX jo
  rw [qC v k hv (by omega),Option.bind_some]
  split
  · rfl
  · split <;> rfl
theorem DR (l:List ag) (hl:lS l) (hv:∀ x ∈ l,x.f1.size ≤ 1048576) (k:Nat) (hk:2097155 < k):jf.f k l = some (mX (eH kF l).1):=by
  have hs:=ql kF l hv
  have hl1:=hl.1
  unfold jf.f
  rw [show (⟨#[99,111,110,116,101,110,116,45,116,114,97,110,115,102,101,114,45,101,110,99,111,100,105,110,103]⟩ : ByteArray) = kF from rfl,AP l hl kF (by decide) k (by omega),Option.bind_some,qM _ k hs (by omega),Option.bind_some]
  unfold mX jo
  split
  · rfl
  · split <;> rfl
def bD (data:List Int) (f t:Nat):aH × ByteArray:=
  let h:=jh (((data.take t).drop f).length + 1) ((data.take t).drop f) 0 []
  if h.2.2 = true then
    if (eH gK h.1).2 = true then (⟨(typ (eH gK h.1).1).1,(typ (eH gK h.1).1).2.1,mX (eH kF h.1).1,wrap64 ((f:Int) + h.2.1),t,0,0⟩,if (typ (eH gK h.1).1).1 = 2 then (iL ((iM (eH gK h.1).1).drop 1) jX).1 else ⟨#[]⟩)
    else (⟨1,1,mX (eH kF h.1).1,wrap64 ((f:Int) + h.2.1),t,0,0⟩,⟨#[]⟩)
  else (⟨3,0,1,f,t,0,0⟩,⟨#[]⟩)
theorem rQ (data:List Int) (f t:Nat) (h1:f ≤ t) (h2:t ≤ data.length):((data.take t).drop f).length = t - f:=by rw [List.length_drop,List.length_take];omega
theorem vC (data:List Int) (hB:∀ x ∈ data,0 ≤ x ∧ x ≤ 255) (f t:Nat):∀ x ∈ (data.take t).drop f,0 ≤ x ∧ x ≤ 255:=fun x hx=>hB x (List.mem_of_mem_take (List.mem_of_mem_drop hx))
theorem xx (data:List Int) (hd:data.length ≤ 1048576):lS (jh (data.length + 1) data 0 ([]:List ag)).1 ∧ ∀ x ∈ (jh (data.length + 1) data 0 ([]:List ag)).1,x.f1.size ≤ 1048576:=by
  have h:=zg data hd (data.length + 1) 0 [] (by omega) ⟨Nat.zero_le _,by simp⟩
  exact ⟨rH _ _ h (by omega),fun x hx=>(h.2 x hx).2⟩
theorem yO (data:List Int) (hd:data.length ≤ 1048576) (hB:∀ x ∈ data,0 ≤ x ∧ x ≤ 255) (f t:Nat) (h1:f ≤ t) (h2:t ≤ data.length) (k:Nat) (hk:9000000 < k):∃ u n,oO.f k data f t = some ((bD data f t).1.f0,(bD data f t).1.f1,(bD data f t).1.f2,(bD data f t).1.f3,(bD data f t).1.f4,u,n,(bD data f t).2):=by
  have hln:=rQ data f t h1 h2
  have hin:=vC data hB f t
  unfold oO.f bD
  rw [if_pos (by omega),if_pos (by omega),if_pos (by omega),Int.toNat_natCast,Int.toNat_natCast]
  generalize (data.take t).drop f = D at hln hin
  obtain ⟨hs1,hs2⟩:=xx D (by omega)
  have hp:=(xH D (by omega) hin k (by omega)).1
  generalize jh (D.length + 1) D 0 ([]:List ag) = h at hs1 hs2 hp
  have hl1:=hs1.1
  rw [hp,Option.bind_some]
  simp only
  by_cases c:h.2.2 = true
  · have hc:=DR h.1 hs1 hs2 k (by omega)
    have hsz:=ql gK h.1 hs2
    rw [if_pos c,if_pos c,show (⟨#[99,111,110,116,101,110,116,45,116,121,112,101]⟩ : ByteArray) = gK from rfl,AP h.1 hs1 gK (by decide) k (by omega),Option.bind_some]
    by_cases c2:(eH gK h.1).2 = true
    · rw [if_pos c2,if_pos c2,(wY _ hsz k hk).1,Option.bind_some]
      by_cases c3:(typ (eH gK h.1).1).1 = 2
      · have hl:=vH (eH gK h.1).1
        rw [if_pos c3,if_pos c3,Ba _ hsz k (by omega),Option.bind_some,show (⟨#[98,111,117,110,100,97,114,121,61]⟩ : ByteArray) = jX from rfl,zX _ jX (fun x hx=>Nat.le_trans (sO _ x hx) hsz) (by omega) k (by omega),Option.bind_some,hc,Option.bind_some]
        exact ⟨_,_,rfl⟩
      · rw [if_neg c3,if_neg c3,hc,Option.bind_some]
        exact ⟨_,_,rfl⟩
    · rw [if_neg c2,if_neg c2,hc,Option.bind_some]
      exact ⟨_,_,rfl⟩
  · rw [if_neg c,if_neg c]
    exact ⟨_,_,rfl⟩
def lC (data:List Int) (i e:Nat) (mark:ByteArray):Int:=
  if (strOfNums ((data.take e).drop i)).toList = ((⟨#[45,45]⟩ : ByteArray) ++ mark).toList then 1
  else if (strOfNums ((data.take e).drop i)).toList = (((⟨#[45,45]⟩ : ByteArray) ++ mark) ++ (⟨#[45,45]⟩ : ByteArray)).toList then 2 else 0
def mf (t:Nat) (acc:List (Nat × Nat)):Option Nat → List (Nat × Nat)
  | some o=>acc ++ [(o,t)]
  | none=>acc
def jT (acc:List (Nat × Nat)) (i:Nat):Option Nat → List (Nat × Nat)
  | some o=>acc ++ [(o,max o (i - 1))]
  | none=>acc
def jD (data:List Int) (mark:ByteArray) (t:Nat):Nat → List (Nat × Nat) → Option Nat → Nat → List (Nat × Nat)
  | 0,acc,op,_=>mf t acc op
  | n + 1,acc,op,i =>
    if i < t then
      let e:=i + dL ((data.take t).drop i)
      if lC data i e mark = 2 then jT acc i op
      else if lC data i e mark = 1 then jD data mark t n (jT acc i op) (some (min (e + 1) t)) (min (e + 1) t)
      else jD data mark t n acc op (min (e + 1) t)
    else mf t acc op
theorem DZ (data:List Int) (mark:ByteArray) (t n:Nat) (acc:List (Nat × Nat)) (op:Option Nat) (i:Nat) (h:t ≤ i):jD data mark t n acc op i = mf t acc op:=by
  cases n with
  | zero=>rfl
  | succ n=>rw [jD,if_neg (by omega)]
theorem BN (data:List Int) (i e:Nat) (mark:ByteArray):lC data i e mark = 0 ∨ lC data i e mark = 1 ∨ lC data i e mark = 2:=by
  unfold lC
  split
  · exact .inr (.inl rfl)
  · split
    · exact .inr (.inr rfl)
    · exact .inl rfl
theorem zq (mark:ByteArray):((⟨#[45,45]⟩ : ByteArray) ++ mark).size = 2 + mark.size:=by rw [ByteArray.size_append];rfl
theorem Gh (data:List Int) (hd:data.length ≤ 1048576) (mark:ByteArray) (hm:mark.size ≤ 1048576) (i e:Nat) (h1:i ≤ e) (h2:e ≤ data.length):qo.f data i e mark = some (lC data i e mark):=by
  unfold qo.f lC
  rw [if_pos (by omega),if_pos (by omega),if_pos (by omega),if_pos (by omega),Int.toNat_natCast,Int.toNat_natCast]
  split
  · rfl
  · rw [if_pos (by rw [zq];omega)]
    split <;> rfl
def oG:Option Nat → Int
  | some o=>o
  | none=>-1
theorem uP (data:List Int) (mark:ByteArray) (t:Nat) (acc:List (Nat × Nat)) (op:Option Nat) (ha:acc.length ≤ 4194304) (i:Int) (h:(t:Int) ≤ i) (k:Nat):dX.l0 (k + 1) data t mark (acc.map fun x=>(⟨x.1,x.2⟩ : dQ)) (oG op) i = some ((mf t acc op).map fun x=>(⟨x.1,x.2⟩ : dQ)):=by
  rw [dX.l0,if_neg (by omega)]
  cases op with
  | none=>rw [if_neg (by show ¬ (-1:Int) ≥ 0;omega)];rfl
  | some o=>rw [if_pos (by show (o:Int) ≥ 0;omega),if_pos (by rw [List.length_map];omega)];unfold mf;rw [List.map_append];rfl
theorem zN (i:Nat) (h:i ≤ 1048577):wrap64 ((i:Int) - 1) = (i:Int) - 1:=wrap64_in (by omega)
theorem xn (acc:List (Nat × Nat)) (i:Nat) (op:Option Nat):(jT acc i op).length ≤ acc.length + 1:=by
  cases op with
  | none=>show acc.length ≤ _;omega
  | some o=>show (acc ++ [_]).length ≤ _;simp
theorem yu (data:List Int) (hd:data.length ≤ 1048576) (mark:ByteArray) (hm:mark.size ≤ 1048576) (t:Nat) (ht:t ≤ data.length):∀ (n k i:Nat) (acc:List (Nat × Nat)) (op:Option Nat),t < i + n → (∀ o,op = some o → 1 ≤ o ∧ o ≤ i) → acc.length + n ≤ 4194304 → 3 * n + 1048600 < k →
    dX.l0 k data t mark (acc.map fun x=>(⟨x.1,x.2⟩ : dQ)) (oG op) i = some ((jD data mark t n acc op i).map fun x=>(⟨x.1,x.2⟩ : dQ))
  | 0,k,i,acc,op,h,_,ha,hk=>by
    obtain ⟨k,rfl⟩ : ∃ q,k = q + 1:=⟨k - 1,by omega⟩
    rw [uP data mark t acc op (by omega) i (by omega)]
    rfl
  | n + 1,k,i,acc,op,h,ho,ha,hk=>by
    obtain ⟨k,rfl⟩ : ∃ q,k = q + 3:=⟨k - 3,by omega⟩
    by_cases c:i < t
    · have hL:(data.take t).length = t:=by rw [List.length_take];omega
      have he:=xN (data.take t) (by omega) (k + 2) i (by omega) (by omega)
      have hle:=rq ((data.take t).drop i)
      rw [List.length_drop,hL] at hle
      rw [jD,if_pos c]
      simp only
      generalize dL ((data.take t).drop i) = m at he hle ⊢
      have hk1:=Gh data hd mark hm i (i + m) (by omega) (by omega)
      rw [dX.l0,if_pos (by omega),if_pos (by omega),if_pos (by omega),Int.toNat_natCast,he,Option.bind_some,hk1,Option.bind_some]
      have go:∀ (k':Nat) (acc':List (Nat × Nat)) (op':Option Nat),acc'.length + n ≤ 4194304 → (∀ o,op' = some o → 1 ≤ o ∧ o ≤ i + m + 1 ∧ o ≤ t) → 3 * n + 1048600 < k' → dX.l0 k' data t mark (acc'.map fun x=>(⟨x.1,x.2⟩ : dQ)) (oG op') ((i + m + 1:Nat):Int) = some ((jD data mark t n acc' op' (min (i + m + 1) t)).map fun x=>(⟨x.1,x.2⟩ : dQ)):=by
        intro k' acc' op' g1 g2 g3
        clear hk1 he
        by_cases d:i + m + 1 ≤ t
        · rw [Nat.min_eq_left d]
          exact yu data hd mark hm t ht n k' (i + m + 1) acc' op' (by omega) (fun o e=>⟨(g2 o e).1,(g2 o e).2.1⟩) g1 g3
        · obtain ⟨k',rfl⟩ : ∃ q,k' = q + 1:=⟨k' - 1,by omega⟩
          rw [uP data mark t acc' op' (by omega) _ (by omega),DZ data mark t n acc' op' (min (i + m + 1) t) (by omega)]
      have hki:=BN data i (i + m) mark
      have hpl:=xn acc i op
      have hput:∀ x13:Int,dX.j1 (k + 2) data t mark (acc.map fun x=>(⟨x.1,x.2⟩ : dQ)) (oG op) i ((i + m:Nat):Int) x13 (decide (oG op ≥ 0)) = dX.j2 (k + 1) data t mark ((jT acc i op).map fun x=>(⟨x.1,x.2⟩ : dQ)) (oG op) ((i + m:Nat):Int) x13:=by
        intro x13
        rw [dX.j1]
        cases op with
        | none=>rw [if_neg (by show ¬ decide ((-1:Int) ≥ 0) = true;decide)];rfl
        | some o =>
          obtain ⟨o1,o2⟩:=ho o rfl
          rw [if_pos (by show decide ((o:Int) ≥ 0) = true;exact decide_eq_true (by omega)),zN i (by omega)]
          have hx:pV.f (oG (some o)) ((i:Int) - 1) = some ((max o (i - 1):Nat):Int):=by
            show (if (o:Int) > (i:Int) - 1 then some (o:Int) else some ((i:Int) - 1)) = _
            by_cases d:(o:Int) > (i:Int) - 1
            · rw [if_pos d,show max o (i - 1) = o by omega]
            · rw [if_neg d,show ((max o (i - 1):Nat):Int) = (i:Int) - 1 by omega]
          rw [hx,Option.bind_some,if_pos (by rw [List.length_map];omega)]
          unfold jT
          rw [List.map_append]
          rfl
      generalize lC data i (i + m) mark = K at hki ⊢
      rcases hki with k0 | k1 | k2
      · rw [k0,if_neg (by decide),if_neg (by decide),if_neg (by decide),dX.j1,if_neg (by decide),dX.j2,if_neg (by decide),if_neg (by decide),wrap_succ (i + m) (by omega)]
        exact go k acc op (by omega) (fun o e=>⟨(ho o e).1,by have:=(ho o e).2;omega,by have:=(ho o e).2;omega⟩) (by omega)
      · rw [k1,if_pos (by decide),if_neg (by decide),if_pos rfl,hput,dX.j2,if_neg (by decide),if_pos rfl,wrap_succ (i + m) (by omega)]
        have hmn:qV.f ((i + m + 1:Nat):Int) t = some (oG (some (min (i + m + 1) t))):=by
          show (if ((i + m + 1:Nat):Int) < (t:Int) then some ((i + m + 1:Nat):Int) else some (t:Int)) = some ((min (i + m + 1) t:Nat):Int)
          by_cases d:i + m + 1 < t
          · rw [if_pos (by omega),show min (i + m + 1) t = i + m + 1 by omega]
          · rw [if_neg (by omega),show min (i + m + 1) t = t by omega]
        rw [hmn,Option.bind_some]
        exact go k (jT acc i op) (some (min (i + m + 1) t)) (by omega) (fun o e=>by cases e;omega) (by omega)
      · rw [k2,if_pos (by decide),if_pos rfl,hput,dX.j2,if_pos rfl]
    · obtain ⟨k,rfl⟩ : ∃ q,k = q + 1:=⟨k - 1,by omega⟩
      rw [uP data mark t acc op (by omega) i (by omega),jD,if_neg c]
def nH:Option Nat → Int
  | some o=>o
  | none=>0
theorem xO (data:List Int) (mark:ByteArray) (t:Nat) (acc:List (Nat × Nat)) (op:Option Nat) (ha:acc.length ≤ 4194304) (i:Int) (h:(t:Int) ≤ i) (k:Nat):dF.l0 (k + 1) data t mark (acc.map fun x=>(⟨x.1,x.2⟩ : df)) op.isSome (nH op) i = some ((mf t acc op).map fun x=>(⟨x.1,x.2⟩ : df)):=by
  rw [dF.l0,if_neg (by omega)]
  cases op with
  | none=>rw [if_neg (by decide)];rfl
  | some o=>rw [if_pos (by rfl),if_pos (by rw [List.length_map];omega)];unfold mf;rw [List.map_append];rfl
theorem zH (data:List Int) (mark:ByteArray) (t:Nat) (acc:List (Nat × Nat)) (op:Option Nat) (ha:acc.length ≤ 4194304) (i:Nat) (hi:i ≤ 1048576) (ho:∀ o,op = some o → 1 ≤ o ∧ o ≤ i) (hm:mark.size ≤ 1048576) (x14:Int) (s:ByteArray) (k:Nat) :
    dF.j2 (k + 1) data t mark (acc.map fun x=>(⟨x.1,x.2⟩ : df)) op.isSome (nH op) i x14 s true = if s.toList = ((⟨#[45,45]⟩ : ByteArray) ++ mark).toList then dF.l0 k data t mark ((jT acc i op).map fun x=>(⟨x.1,x.2⟩ : df)) true x14 x14 else some ((jT acc i op).map fun x=>(⟨x.1,x.2⟩ : df)):=by
  rw [dF.j2,if_pos rfl]
  cases op with
  | none =>
    rw [if_neg (by decide),if_pos (by omega)]
    by_cases c:s.toList = ((⟨#[45,45]⟩ : ByteArray) ++ mark).toList
    · rw [if_pos c,if_pos c,beq_iff_eq.mpr c];rfl
    · rw [if_neg c,if_neg c];rfl
  | some o =>
    obtain ⟨o1,o2⟩:=ho o rfl
    have hx:mx (nH (some o)) ((i:Int) - 1) = ((max o (i - 1):Nat):Int):=by
      show (if (o:Int) < (i:Int) - 1 then (i:Int) - 1 else (o:Int)) = _
      by_cases d:(o:Int) < (i:Int) - 1
      · rw [if_pos d,show ((max o (i - 1):Nat):Int) = (i:Int) - 1 by omega]
      · rw [if_neg d,show max o (i - 1) = o by omega]
    rw [if_pos (by rfl),if_pos (by rw [List.length_map];omega),Option.bind_some,if_pos (by omega),zN i (by omega),hx]
    have hp:(acc.map fun x=>(⟨x.1,x.2⟩ : df)) ++ [(⟨nH (some o),((max o (i - 1):Nat):Int)⟩ : df)] = (jT acc i (some o)).map fun x=>(⟨x.1,x.2⟩ : df):=by
      unfold jT
      rw [List.map_append]
      rfl
    rw [hp]
    by_cases c:s.toList = ((⟨#[45,45]⟩ : ByteArray) ++ mark).toList
    · rw [if_pos c,if_pos c,beq_iff_eq.mpr c]
    · rw [if_neg c,if_neg c]
theorem DT (data:List Int) (hd:data.length ≤ 1048576) (mark:ByteArray) (hm:mark.size ≤ 1048576) (t:Nat) (ht:t ≤ data.length) (acc:List (Nat × Nat)) (op:Option Nat) (ha:acc.length ≤ 4194304) (i m:Nat) (hi:i + m ≤ t) (ho:∀ o,op = some o → 1 ≤ o ∧ o ≤ i) (x14:Int) (k:Nat) :
    dF.j1 (k + 2) data t mark (acc.map fun x=>(⟨x.1,x.2⟩ : df)) op.isSome (nH op) i m x14 = if lC data i (i + m) mark = 2 then some ((jT acc i op).map fun x=>(⟨x.1,x.2⟩ : df)) else if lC data i (i + m) mark = 1 then dF.l0 k data t mark ((jT acc i op).map fun x=>(⟨x.1,x.2⟩ : df)) true x14 x14 else dF.l0 k data t mark (acc.map fun x=>(⟨x.1,x.2⟩ : df)) op.isSome (nH op) x14:=by
  have w1:wrap64 ((i:Int) + (m:Int)) = ((i + m:Nat):Int):=by rw [wrap64_in (by omega)];omega
  rw [dF.j1,w1]
  clear w1
  rw [if_pos (by omega),if_pos (by omega),if_pos (by omega),if_pos (by omega),Int.toNat_natCast,Int.toNat_natCast]
  unfold lC
  generalize strOfNums ((data.take (i + m)).drop i) = s
  by_cases c:s.toList = ((⟨#[45,45]⟩ : ByteArray) ++ mark).toList
  · rw [if_pos c,zH data mark t acc op ha i (by omega) ho hm x14 s k,if_pos c,if_pos c,if_neg (by decide),if_pos rfl]
  · rw [if_neg c,if_pos (by rw [zq];omega)]
    by_cases d:s.toList = (((⟨#[45,45]⟩ : ByteArray) ++ mark) ++ (⟨#[45,45]⟩ : ByteArray)).toList
    · rw [beq_iff_eq.mpr d,zH data mark t acc op ha i (by omega) ho hm x14 s k,if_neg c,if_neg c,if_pos d,if_pos rfl]
    · rw [beq_eq_false_iff_ne.mpr d,dF.j2,if_neg (by decide),if_neg c,if_neg d,if_neg (by decide),if_neg (by decide)]
theorem vX (data:List Int) (hd:data.length ≤ 1048576) (hB:∀ x ∈ data,0 ≤ x ∧ x ≤ 255) (mark:ByteArray) (hm:mark.size ≤ 1048576) (t:Nat) (ht:t ≤ data.length):∀ (n k i:Nat) (acc:List (Nat × Nat)) (op:Option Nat),t < i + n → (∀ o,op = some o → 1 ≤ o ∧ o ≤ i) → acc.length + n ≤ 4194304 → 3 * n + 10 < k →
    dF.l0 k data t mark (acc.map fun x=>(⟨x.1,x.2⟩ : df)) op.isSome (nH op) i = some ((jD data mark t n acc op i).map fun x=>(⟨x.1,x.2⟩ : df))
  | 0,k,i,acc,op,h,_,ha,hk=>by
    obtain ⟨k,rfl⟩ : ∃ q,k = q + 1:=⟨k - 1,by omega⟩
    rw [xO data mark t acc op (by omega) i (by omega)]
    rfl
  | n + 1,k,i,acc,op,h,ho,ha,hk=>by
    obtain ⟨k,rfl⟩ : ∃ q,k = q + 3:=⟨k - 3,by omega⟩
    by_cases c:i < t
    · have hL:=rQ data i t (by omega) ht
      have hin:=vC data hB i t
      have hle:=rq ((data.take t).drop i)
      rw [hL] at hle
      have hpl:=xn acc i op
      have hx:bytes_IndexByte.f ((data.take t).drop i) 10 = some (match fst 10 ((data.take t).drop i) with | none=>-1 | some j=>(j:Int)):=by
        unfold bytes_IndexByte.f
        rw [if_pos (by omega),uM 10 (by omega) _ hin] <;> (cases fst 10 ((data.take t).drop i) <;> rfl)
      have hj:dF.l0 (k + 3) data t mark (acc.map fun x=>(⟨x.1,x.2⟩ : df)) op.isSome (nH op) i = dF.j1 (k + 2) data t mark (acc.map fun x=>(⟨x.1,x.2⟩ : df)) op.isSome (nH op) i (dL ((data.take t).drop i)) ((min (i + dL ((data.take t).drop i) + 1) t:Nat):Int):=by
        rw [dF.l0,if_pos (by omega),if_pos (by omega),if_pos (by omega),if_pos (by omega),Int.toNat_natCast,Int.toNat_natCast,hx,Option.bind_some]
        cases hf:fst 10 ((data.take t).drop i) with
        | none =>
          have hm':dL ((data.take t).drop i) = t - i:=by unfold dL;rw [hf];exact hL
          show (if (-1:Int) < 0 then _ else _) = _
          rw [if_pos (by decide),hm',show min (i + (t - i) + 1) t = t by omega,show wrap64 ((t:Int) - (i:Int)) = ((t - i:Nat):Int) by rw [wrap64_in (by omega)];omega]
        | some m =>
          have hlt:=rX 10 _ m hf
          have hm':dL ((data.take t).drop i) = m:=by unfold dL;rw [hf];rfl
          show (if (m:Int) < 0 then _ else _) = _
          rw [if_neg (by omega),hm',show min (i + m + 1) t = i + m + 1 by omega,show wrap64 ((i:Int) + (m:Int)) = ((i + m:Nat):Int) by rw [wrap64_in (by omega)];omega,wrap_succ (i + m) (by omega)]
      rw [hj,jD,if_pos c]
      simp only
      clear hj hx
      generalize dL ((data.take t).drop i) = m at hle ⊢
      rw [DT data hd mark hm t ht acc op (by omega) i m (by omega) ho]
      split
      · rfl
      · split
        · exact vX data hd hB mark hm t ht n k (min (i + m + 1) t) (jT acc i op) (some (min (i + m + 1) t)) (by omega) (fun o e=>by cases e;omega) (by omega) (by omega)
        · exact vX data hd hB mark hm t ht n k (min (i + m + 1) t) acc op (by omega) (fun o e=>⟨(ho o e).1,by have:=(ho o e).2;omega⟩) (by omega) (by omega)
    · obtain ⟨k,rfl⟩ : ∃ q,k = q + 1:=⟨k - 1,by omega⟩
      rw [xO data mark t acc op (by omega) i (by omega),jD,if_neg c]
theorem Ac (data:List Int):∀ (n i:Nat) (fs:List ag),i ≤ data.length → ∃ a:Nat,(jh n data i fs).2.1 = (a:Int) ∧ a ≤ data.length
  | 0,_,_,_=>⟨0,rfl,Nat.zero_le _⟩
  | n + 1,i,fs,hi=>by
    unfold jh
    by_cases c:i < data.length
    · rw [if_pos c]
      by_cases h0:dL (data.drop i) = 0
      · rw [if_pos h0];exact ⟨i + 1,rfl,c⟩
      · rw [if_neg h0]
        cases hl:kV fs (strOfNums ((data.drop i).take (dL (data.drop i)))) with
        | none=>exact ⟨0,rfl,Nat.zero_le _⟩
        | some f=>exact Ac data n (min (i + dL (data.drop i) + 1) data.length) f (Nat.min_le_right _ _)
    · rw [if_neg c];exact ⟨i,rfl,hi⟩
theorem uN (data:List Int) (hd:data.length ≤ 1048576) (f t:Nat) (h1:f ≤ t) (h2:t ≤ data.length):(∃ a:Nat,(bD data f t).1.f3 = (a:Int) ∧ f ≤ a ∧ a ≤ t) ∧ (bD data f t).1.f4 = (t:Int):=by
  have hL:=rQ data f t h1 h2
  unfold bD
  obtain ⟨a,ha,hle⟩:=Ac ((data.take t).drop f) (((data.take t).drop f).length + 1) 0 [] (Nat.zero_le _)
  rw [hL] at hle
  simp only
  rw [ha]
  have w:wrap64 ((f:Int) + (a:Int)) = ((f + a:Nat):Int):=by rw [wrap64_in (by omega)];omega
  rw [w]
  clear w
  by_cases c:(jh (((data.take t).drop f).length + 1) ((data.take t).drop f) 0 ([]:List ag)).2.2 = true
  · rw [if_pos c]
    by_cases c2:(eH gK (jh (((data.take t).drop f).length + 1) ((data.take t).drop f) 0 ([]:List ag)).1).2 = true
    · rw [if_pos c2]
      exact ⟨⟨f + a,rfl,by omega,by omega⟩,rfl⟩
    · rw [if_neg c2]
      exact ⟨⟨f + a,rfl,by omega,by omega⟩,rfl⟩
  · rw [if_neg c]
    exact ⟨⟨f,rfl,by omega,by omega⟩,rfl⟩
theorem zt (data:List Int) (hd:data.length ≤ 1048576) (f t:Nat) (h1:f ≤ t) (h2:t ≤ data.length):(bD data f t).2.size ≤ 1048576:=by
  have hL:=rQ data f t h1 h2
  have hs:=(xx ((data.take t).drop f) (by omega)).2
  unfold bD
  simp only
  generalize jh (((data.take t).drop f).length + 1) ((data.take t).drop f) 0 ([]:List ag) = h at hs
  by_cases c:h.2.2 = true
  · rw [if_pos c]
    by_cases c2:(eH gK h.1).2 = true
    · rw [if_pos c2]
      simp only
      split
      · exact vY _ _ 1048576 (fun x hx=>Nat.le_trans (sO _ x (List.mem_of_mem_drop hx)) (ql gK h.1 hs))
      · show (0:Nat) ≤ _;omega
    · rw [if_neg c2];show (0:Nat) ≤ _;omega
  · rw [if_neg c];show (0:Nat) ≤ _;omega
theorem xK (t i0:Nat) (acc:List (Nat × Nat)) (op:Option Nat) (ha:∀ x ∈ acc,i0 ≤ x.1 ∧ x.1 ≤ x.2 ∧ x.2 ≤ t) (ho:∀ o,op = some o → i0 ≤ o ∧ o ≤ t):∀ x ∈ mf t acc op,i0 ≤ x.1 ∧ x.1 ≤ x.2 ∧ x.2 ≤ t:=by
  cases op with
  | none=>exact ha
  | some o =>
    intro x hx
    rcases List.mem_append.1 hx with h | h
    · exact ha x h
    · obtain rfl:=List.mem_singleton.1 h
      have:=ho o rfl
      exact ⟨this.1,this.2,Nat.le_refl _⟩
theorem FT (t i0 i:Nat) (acc:List (Nat × Nat)) (op:Option Nat) (ha:∀ x ∈ acc,i0 ≤ x.1 ∧ x.1 ≤ x.2 ∧ x.2 ≤ t) (ho:∀ o,op = some o → i0 ≤ o ∧ o ≤ i) (hi:i ≤ t):∀ x ∈ jT acc i op,i0 ≤ x.1 ∧ x.1 ≤ x.2 ∧ x.2 ≤ t:=by
  cases op with
  | none=>exact ha
  | some o =>
    intro x hx
    rcases List.mem_append.1 hx with h | h
    · exact ha x h
    · obtain rfl:=List.mem_singleton.1 h
      have:=ho o rfl
      exact ⟨this.1,by show o ≤ max o (i - 1);omega,by show max o (i - 1) ≤ t;omega⟩
theorem qR (data:List Int) (mark:ByteArray) (t i0:Nat):∀ (n i:Nat) (acc:List (Nat × Nat)) (op:Option Nat),(∀ x ∈ acc,i0 ≤ x.1 ∧ x.1 ≤ x.2 ∧ x.2 ≤ t) → (∀ o,op = some o → i0 ≤ o ∧ o ≤ i ∧ o ≤ t) → i0 ≤ i → ∀ x ∈ jD data mark t n acc op i,i0 ≤ x.1 ∧ x.1 ≤ x.2 ∧ x.2 ≤ t
  | 0,i,acc,op,ha,ho,_=>xK t i0 acc op ha (fun o e=>⟨(ho o e).1,(ho o e).2.2⟩)
  | n + 1,i,acc,op,ha,ho,hi=>by
    unfold jD
    by_cases c:i < t
    · rw [if_pos c]
      simp only
      have hp:=FT t i0 i acc op ha (fun o e=>⟨(ho o e).1,(ho o e).2.1⟩) (by omega)
      split
      · exact hp
      · split
        · exact qR data mark t i0 n _ _ _ hp (fun o e=>by cases e;omega) (by omega)
        · exact qR data mark t i0 n _ acc op ha (fun o e=>by have:=ho o e;omega) (by omega)
    · rw [if_neg c]
      exact xK t i0 acc op ha (fun o e=>⟨(ho o e).1,(ho o e).2.2⟩)
theorem uA (data:List Int) (mark:ByteArray) (t:Nat):∀ (n i:Nat) (acc:List (Nat × Nat)) (op:Option Nat),(jD data mark t n acc op i).length ≤ acc.length + n + 1
  | 0,i,acc,op=>by
    show (mf t acc op).length ≤ _
    cases op with
    | none=>show acc.length ≤ _;omega
    | some o=>show (acc ++ [_]).length ≤ _;simp
  | n + 1,i,acc,op=>by
    have hp:=xn acc i op
    have he:(mf t acc op).length ≤ acc.length + 1:=by
      cases op with
      | none=>show acc.length ≤ _;omega
      | some o=>show (acc ++ [_]).length ≤ _;simp
    unfold jD
    by_cases c:i < t
    · rw [if_pos c]
      simp only
      split
      · omega
      · split
        · have:=uA data mark t n (min (i + dL ((data.take t).drop i) + 1) t) (jT acc i op) (some (min (i + dL ((data.take t).drop i) + 1) t))
          omega
        · have:=uA data mark t n (min (i + dL ((data.take t).drop i) + 1) t) acc op
          omega
    · rw [if_neg c];omega
def ig (g:List aH → Nat → Nat → Int → Int → List aH) (here:Int):List (Nat × Nat) → Nat → List aH → List aH
  | [],_,l=>l
  | s :: ss,i,l=>ig g here ss (i + 1) (if l.length < 8 then g l s.1 s.2 here ((i + 1:Nat):Int) else l)
def fZ (data:List Int) (l:List aH) (f t:Nat) (u n:Int):List aH:=l ++ [⟨(bD data f t).1.f0,(bD data f t).1.f1,(bD data f t).1.f2,(bD data f t).1.f3,(bD data f t).1.f4,u,n⟩]
def iZ (data:List Int) (f t:Nat):List (Nat × Nat):=jD data (bD data f t).2 t (t + 1) [] none ((bD data f t).1.f3).toNat
def fA (data:List Int):Nat → List aH → Nat → Nat → Int → Int → List aH
  | 0,l,_,_,_,_=>l
  | d + 1,l,f,t,u,n =>
    if (bD data f t).1.f0 = 2 ∧ 1 ≤ d ∧ 1 ≤ (bD data f t).2.size ∧ (bD data f t).2.size ≤ 20 then ig (fA data d) l.length (iZ data f t) 0 (fZ data l f t u n) else fZ data l f t u n
theorem yE (g:List aH → Nat → Nat → Int → Int → List aH) (here:Int):∀ (ss:List (Nat × Nat)) (i:Nat) (l:List aH),¬ l.length < 8 → ig g here ss i l = l
  | [],_,_,_=>rfl
  | s :: ss,i,l,h=>by rw [ig,if_neg h];exact yE g here ss (i + 1) l h
theorem Bc (g:List aH → Nat → Nat → Int → Int → List aH) (here:Int) (hg:∀ l a b u n,l.length < 8 → (g l a b u n).length ≤ 8):∀ (ss:List (Nat × Nat)) (i:Nat) (l:List aH),l.length ≤ 8 → (ig g here ss i l).length ≤ 8
  | [],_,_,h=>h
  | s :: ss,i,l,h=>by
    rw [ig]
    refine Bc g here hg ss (i + 1) _ ?_
    split
    · next c=>exact hg l _ _ _ _ c
    · exact h
theorem qN (data:List Int) (l:List aH) (f t:Nat) (u n:Int):(fZ data l f t u n).length = l.length + 1:=by unfold fZ;simp
theorem wK (data:List Int):∀ (d:Nat) (l:List aH) (f t:Nat) (u n:Int),l.length < 8 → (fA data d l f t u n).length ≤ 8
  | 0,l,_,_,_,_,h=>by rw [fA];omega
  | d + 1,l,f,t,u,n,h=>by
    rw [fA]
    have:=qN data l f t u n
    split
    · exact Bc (fA data d) l.length (fun l a b u n hl=>wK data d l a b u n hl) _ _ _ (by omega)
    · omega
theorem Ef (ss:List (Nat × Nat)) (j:Nat) (h:j < ss.length):kz (ss.map fun x=>(⟨x.1,x.2⟩ : dQ)) (j:Int) = ⟨ss[j].1,ss[j].2⟩:=by
  unfold kz
  rw [Int.toNat_natCast,List.getD_eq_getElem?_getD,List.getElem?_map,List.getElem?_eq_getElem h]
  rfl
theorem DU (ss:List (Nat × Nat)) (j:Nat) (h:j < ss.length):ji (ss.map fun x=>(⟨x.1,x.2⟩ : df)) (j:Int) = ⟨ss[j].1,ss[j].2⟩:=by
  unfold ji
  rw [Int.toNat_natCast,List.getD_eq_getElem?_getD,List.getElem?_map,List.getElem?_eq_getElem h]
  rfl
theorem yh (data:List Int) (g:List aH → Nat → Nat → Int → Int → List aH) (ss:List (Nat × Nat)) (hl:ss.length ≤ 1048580) (deep here:Int) (K:Nat) (hg:∀ (l:List aH) (s:Nat × Nat) (n:Int) (k:Nat),s ∈ ss → l.length < 8 → K < k → dJ.f k l data s.1 s.2 here n (wrap64 (deep + 1)) = some (g l s.1 s.2 here n)):∀ (n j k:Nat) (l:List aH),ss.length = j + n → K + n + 1 < k → dJ.l0 k l data deep here (ss.map fun x=>(⟨x.1,x.2⟩ : dQ)) j = some (ig g here (ss.drop j) j l)
  | 0,j,k,l,h,hk=>by
    obtain ⟨k,rfl⟩ : ∃ q,k = q + 1:=⟨k - 1,by omega⟩
    rw [dJ.l0,if_neg (by rw [List.length_map];omega),List.drop_eq_nil_of_le (by omega)]
    rfl
  | n + 1,j,k,l,h,hk=>by
    obtain ⟨k,rfl⟩ : ∃ q,k = q + 1:=⟨k - 1,by omega⟩
    have hj:j < ss.length:=by omega
    rw [dJ.l0,if_pos (by rw [List.length_map];omega)]
    by_cases c:l.length < 8
    · rw [if_pos (by omega),if_pos (by omega),Ef ss j hj,wrap_succ j (by omega)]
      rw [hg l ss[j] ((j + 1:Nat):Int) k (List.getElem_mem hj) c (by omega),Option.bind_some,yh data g ss hl deep here K hg n (j + 1) k _ (by omega) (by omega),List.drop_eq_getElem_cons hj,ig,if_pos c]
    · rw [if_neg (by omega),yE g here _ _ _ c]
theorem BB (data:List Int) (g:List aH → Nat → Nat → Int → Int → List aH) (ss:List (Nat × Nat)) (hl:ss.length ≤ 1048580) (deep here:Int) (K:Nat) (hg:∀ (l:List aH) (s:Nat × Nat) (n:Int) (k:Nat),s ∈ ss → l.length ≤ 8 → K < k → bC.f k data s.1 s.2 here n (wrap64 (deep + 1)) l = some (if l.length < 8 then g l s.1 s.2 here n else l)) (hg8:∀ l a b u n,l.length < 8 → (g l a b u n).length ≤ 8):∀ (n j k:Nat) (l:List aH),ss.length = j + n → l.length ≤ 8 → K + n + 1 < k → bC.l0 k deep here (ss.map fun x=>(⟨x.1,x.2⟩ : df)) (ss.length:Int) j data l = some (ig g here (ss.drop j) j l)
  | 0,j,k,l,h,_,hk=>by
    obtain ⟨k,rfl⟩ : ∃ q,k = q + 1:=⟨k - 1,by omega⟩
    rw [bC.l0,if_neg (by omega),List.drop_eq_nil_of_le (by omega)]
    rfl
  | n + 1,j,k,l,h,h8,hk=>by
    obtain ⟨k,rfl⟩ : ∃ q,k = q + 1:=⟨k - 1,by omega⟩
    have hj:j < ss.length:=by omega
    rw [bC.l0,if_pos (by omega),if_pos (by omega),if_pos (by rw [List.length_map];omega),DU ss j hj,wrap_succ j (by omega)]
    have h8':(if l.length < 8 then g l ss[j].1 ss[j].2 here ((j + 1:Nat):Int) else l).length ≤ 8:=by
      split
      · next c=>exact hg8 _ _ _ _ _ c
      · exact h8
    rw [hg l ss[j] ((j + 1:Nat):Int) k (List.getElem_mem hj) h8 (by omega),Option.bind_some,BB data g ss hl deep here K hg hg8 n (j + 1) k _ (by omega) h8' (by omega),List.drop_eq_getElem_cons hj,ig]
theorem Bj (a:Int):fC.f a 1 20 = some (decide (1 ≤ a ∧ a ≤ 20)) ∧ kM.f a 1 20 = some (decide (1 ≤ a ∧ a ≤ 20)):=by
  have:∀ x:Option Bool,x = (if a ≥ 1 then (some (decide (a ≤ 20))) else (some false)) → x = some (decide (1 ≤ a ∧ a ≤ 20)):=by
    intro x hx
    rw [hx]
    by_cases h:a ≥ 1
    · rw [if_pos h]
      by_cases h2:a ≤ 20
      · rw [decide_eq_true h2,decide_eq_true ⟨h,h2⟩]
      · rw [decide_eq_false h2,decide_eq_false (fun q=>h2 q.2)]
    · rw [if_neg h,decide_eq_false (fun q=>h q.1)]
  exact ⟨this _ rfl,this _ rfl⟩
theorem Gq (M:Nat → Nat) (hM0:∀ d,9000000 < M d) (hM:∀ d,M d + 4194304 ≤ M (d + 1)) (data:List Int) (hd:data.length ≤ 1048576) (hB:∀ x ∈ data,0 ≤ x ∧ x ≤ 255):∀ (d:Nat) (l:List aH) (f t:Nat) (u n:Int) (k:Nat),d ≤ 2 → l.length < 8 → f ≤ t → t ≤ data.length → M d < k → dJ.f k l data f t u n (3 - (d:Int)) = some (fA data (d + 1) l f t u n):=by
  intro d
  induction d with
  | zero =>
    intro l f t u n k _ hl h1 h2 hk
    have m0:=hM0 0
    obtain ⟨k,rfl⟩ : ∃ q,k = q + 2:=⟨k - 2,by omega⟩
    obtain ⟨a,b,h⟩:=yO data hd hB f t h1 h2 (k + 1) (by omega)
    have hz:¬ ((bD data f t).1.f0 = 2 ∧ 1 ≤ 0 ∧ 1 ≤ (bD data f t).2.size ∧ (bD data f t).2.size ≤ 20):=fun q=>absurd q.2.1 (by decide)
    rw [dJ.f,h,Option.bind_some,if_pos (by omega),Option.bind_some,fA,if_neg hz]
    simp only
    unfold fZ
    split
    · rw [if_pos (by omega),dJ.j0,if_pos rfl]
    · rw [dJ.j0,if_pos rfl]
  | succ d ih =>
    intro l f t u n k hdd hl h1 h2 hk
    have m0:=hM0 (d + 1)
    have m1:=hM0 d
    have m2:=hM d
    generalize M (d + 1) = M1 at m0 m2 hk
    generalize hMd:M d = M0 at m1 m2 ih
    clear hMd
    obtain ⟨k,rfl⟩ : ∃ q,k = q + 2:=⟨k - 2,by omega⟩
    obtain ⟨a,b,h⟩:=yO data hd hB f t h1 h2 (k + 1) (by omega)
    obtain ⟨⟨p,p1,p2,p3⟩,p4⟩:=uN data hd f t h1 h2
    have hm:=zt data hd f t h1 h2
    rw [dJ.f,h,Option.bind_some,if_pos (by omega),Option.bind_some,fA]
    simp only
    by_cases c:(bD data f t).1.f0 = 2
    · rw [if_pos c,if_neg (by omega),(Bj _).1,Option.bind_some]
      by_cases c2:1 ≤ (bD data f t).2.size ∧ (bD data f t).2.size ≤ 20
      · have hsp:dX.f k data (bD data f t).1.f3 (bD data f t).1.f4 (bD data f t).2 = some ((iZ data f t).map fun x=>(⟨x.1,x.2⟩ : dQ)):=by
          unfold dX.f iZ
          rw [p1,p4,Int.toNat_natCast]
          exact yu data hd _ hm t h2 (t + 1) k p [] none (by omega) (fun o e=>by cases e) (by simp only [List.length_nil];omega) (by omega)
        have hin:∀ s ∈ iZ data f t,s.1 ≤ s.2 ∧ s.2 ≤ data.length:=fun s hs=>by
          have:=qR data (bD data f t).2 t 0 (t + 1) _ [] none (by simp) (fun o e=>by cases e) (Nat.zero_le _) s hs
          omega
        have hln:(iZ data f t).length ≤ 1048580:=by
          have:=uA data (bD data f t).2 t (t + 1) ((bD data f t).1.f3).toNat [] none
          unfold iZ
          simp only [List.length_nil] at this
          omega
        rw [if_pos ⟨c,by omega,c2⟩,decide_eq_true (by omega),Bool.not_true,dJ.j0,if_neg (by decide),hsp,Option.bind_some]
        have:=yh data (fA data (d + 1)) (iZ data f t) hln (3 - ((d + 1:Nat):Int)) l.length M0 (fun l2 s n k hs hl8 hk2=>by
          rw [show wrap64 (3 - ((d + 1:Nat):Int) + 1) = 3 - (d:Int) by rw [wrap64_in (by omega)];omega]
          exact ih l2 s.1 s.2 l.length n k (by omega) hl8 (hin s hs).1 (hin s hs).2 hk2) (iZ data f t).length 0 k (fZ data l f t u n) (by omega) (by omega)
        rw [List.drop_zero] at this
        exact this
      · rw [if_neg (fun q=>c2 q.2.2),decide_eq_false (by omega),Bool.not_false,dJ.j0,if_pos rfl]
        rfl
    · rw [if_neg c,if_neg (fun q=>c q.1),dJ.j0,if_pos rfl]
      rfl
theorem yY (data:List Int) (x5:Int) (v:ByteArray) (l:List aH) (o0 o1 o2 o3 o4 u n:Int) (hl:l.length < 8) (st:Bool) (k:Nat) (h5:(decide ((wrap64 (x5 + 1)) ≥ 3)) = st) :
    bC.j1 (k + 1) x5 v data l o0 o1 o2 o3 o4 u n = bC.j2 k x5 v (if o0 = 2 then st else true) data (l ++ [⟨o0,o1,o2,o3,o4,u,n⟩]) o0 o1 o2 o3 o4 u n:=by
  rw [bC.j1,if_pos (by omega),Option.bind_some]
  by_cases c:o0 = 2
  · rw [if_pos c,if_pos c,h5]
  · rw [if_neg c,if_neg c]
theorem Fv (data:List Int) (x5:Int) (v:ByteArray) (hv:v.size ≤ 1048576) (l:List aH) (o0 o1 o2 o3 o4 u n:Int) (k:Nat) (hk:9000000 < k) :
    bC.j2 (k + 2) x5 v false data l o0 o1 o2 o3 o4 u n = if 1 ≤ (iL ((iM v).drop 1) jX).1.size ∧ (iL ((iM v).drop 1) jX).1.size ≤ 20 then ((dF.f k data o3 o4 (iL ((iM v).drop 1) jX).1).bind fun t414=>bC.l0 k x5 (wrap64 ((l.length:Int) - 1)) t414 (t414.length:Int) 0 data l) else some l:=by
  rw [bC.j2,if_neg (by decide),show (⟨#[98,111,117,110,100,97,114,121,61]⟩ : ByteArray) = jX from rfl,yX v jX hv (k + 1) (by omega),Option.bind_some]
  have hf:∀ q:List ByteArray,(iL q jX).2 = true ∨ (iL q jX).1 = (⟨#[]⟩ : ByteArray):=by
    intro q
    induction q with
    | nil=>exact .inr rfl
    | cons x r ih =>
      unfold iL
      split
      · exact .inl rfl
      · exact ih
  have hf:=hf ((iM v).drop 1)
  generalize iL ((iM v).drop 1) jX = o at hf
  by_cases c:o.2 = true
  · rw [if_pos c,(Bj _).2,Option.bind_some]
    by_cases c2:1 ≤ o.1.size ∧ o.1.size ≤ 20
    · rw [if_pos c2,decide_eq_true (by omega),Bool.not_true,bC.j3,if_neg (by decide)]
      rfl
    · rw [if_neg c2,decide_eq_false (by omega),Bool.not_false,bC.j3,if_pos rfl]
  · have hz:o.1.size = 0:=by rw [hf.resolve_left c];rfl
    rw [if_neg c,if_neg (by omega),bC.j3,if_pos rfl]
theorem Ai (data:List Int) (hd:data.length ≤ 1048576) (hB:∀ x ∈ data,0 ≤ x ∧ x ≤ 255) (l:List aH) (hl:l.length < 8) (f t:Nat) (h1:f ≤ t) (h2:t ≤ data.length) (u n x5:Int) (st:Bool) (h5:(decide ((wrap64 (x5 + 1)) ≥ 3)) = st) (q:Nat) (hq:9000000 < q) :
    bC.f (q + 5) data f t u n x5 l = if (bD data f t).1.f0 = 2 ∧ st = false ∧ 1 ≤ (bD data f t).2.size ∧ (bD data f t).2.size ≤ 20 then ((dF.f q data (bD data f t).1.f3 (bD data f t).1.f4 (bD data f t).2).bind fun t414=>bC.l0 q x5 (wrap64 (((fZ data l f t u n).length:Int) - 1)) t414 (t414.length:Int) 0 data (fZ data l f t u n)) else some (fZ data l f t u n):=by
  have hL:=rQ data f t h1 h2
  have hin:=vC data hB f t
  obtain ⟨D,hD⟩ : ∃ D,D = (data.take t).drop f:=⟨_,rfl⟩
  rw [← hD] at hL hin
  obtain ⟨hs1,hs2⟩:=xx D (by omega)
  have hp:=(xH D (by omega) hin (q + 4) (by omega)).2
  obtain ⟨h,hh⟩ : ∃ h,h = jh (D.length + 1) D 0 ([]:List ag):=⟨_,rfl⟩
  rw [← hh] at hs1 hs2 hp
  have hl1:=hs1.1
  rw [bC.f,if_neg (by omega),if_pos (by omega),if_pos (by omega),if_pos (by omega),Int.toNat_natCast,Int.toNat_natCast,← hD,hp,Option.bind_some]
  have plain:∀ (o0 o1 o2 o3 o4:Int) (v m:ByteArray),bD data f t = (⟨o0,o1,o2,o3,o4,0,0⟩,m) → ¬ o0 = 2 → bC.j1 (q + 3) x5 v data l o0 o1 o2 o3 o4 u n = if (bD data f t).1.f0 = 2 ∧ st = false ∧ 1 ≤ (bD data f t).2.size ∧ (bD data f t).2.size ≤ 20 then ((dF.f q data (bD data f t).1.f3 (bD data f t).1.f4 (bD data f t).2).bind fun t414=>bC.l0 q x5 (wrap64 (((fZ data l f t u n).length:Int) - 1)) t414 (t414.length:Int) 0 data (fZ data l f t u n)) else some (fZ data l f t u n):=by
    intro o0 o1 o2 o3 o4 v m ho h0
    rw [yY data x5 v l o0 o1 o2 o3 o4 u n hl st (q + 2) h5,if_neg h0,bC.j2,if_pos rfl,if_neg (by rw [ho];exact fun z=>h0 z.1)]
    unfold fZ
    rw [ho]
  by_cases c:h.2.2 = true
  · have hsz:=ql gK h.1 hs2
    have e1:gu.f (q + 4) h.1 (⟨#[67,111,110,116,101,110,116,45,84,121,112,101]⟩ : ByteArray) = some (eH gK h.1):=by rw [Aq h.1 hs1 _ (by decide) (q + 4) (by omega),vI _ gK CQ]
    have e2:gu.f (q + 3) h.1 (⟨#[67,111,110,116,101,110,116,45,84,114,97,110,115,102,101,114,45,69,110,99,111,100,105,110,103]⟩ : ByteArray) = some (eH kF h.1):=by rw [Aq h.1 hs1 _ (by decide) (q + 3) (by omega),vI _ kF D6]
    have e3:oC.f (q + 3) (eH kF h.1).1 = some (mX (eH kF h.1).1):=Gt _ (ql kF h.1 hs2) (q + 3) (by omega)
    rw [if_pos c,e1,Option.bind_some]
    by_cases c2:(eH gK h.1).2 = true
    · have hT:=(wY _ hsz (q + 4) (by omega)).2
      have ho:bD data f t = (⟨(typ (eH gK h.1).1).1,(typ (eH gK h.1).1).2.1,mX (eH kF h.1).1,wrap64 ((f:Int) + h.2.1),t,0,0⟩,if (typ (eH gK h.1).1).1 = 2 then (iL ((iM (eH gK h.1).1).drop 1) jX).1 else ⟨#[]⟩):=by
        unfold bD
        rw [← hD,← hh]
        simp only
        rw [if_pos c,if_pos c2]
      rw [if_pos c2,hT,Option.bind_some,bC.j0,if_pos c,e2,Option.bind_some,e3,Option.bind_some]
      by_cases c3:(typ (eH gK h.1).1).1 = 2
      · rw [if_pos c3] at ho
        rw [yY data x5 _ l _ _ _ _ _ u n hl st (q + 2) h5,if_pos c3]
        unfold fZ
        rw [ho]
        simp only
        cases st with
        | true=>rw [bC.j2,if_pos rfl,if_neg (fun z=>absurd z.2.1 (by decide))]
        | false =>
          rw [Fv data x5 _ hsz _ _ _ _ _ _ u n q hq]
          by_cases c4:1 ≤ (iL ((iM (eH gK h.1).1).drop 1) jX).1.size ∧ (iL ((iM (eH gK h.1).1).drop 1) jX).1.size ≤ 20
          · rw [if_pos c4,if_pos ⟨c3,rfl,c4⟩]
          · rw [if_neg c4,if_neg (fun z=>c4 z.2.2)]
      · exact plain _ _ _ _ _ _ _ ho c3
    · have ho:bD data f t = (⟨1,1,mX (eH kF h.1).1,wrap64 ((f:Int) + h.2.1),t,0,0⟩,⟨#[]⟩):=by
        unfold bD
        rw [← hD,← hh]
        simp only
        rw [if_pos c,if_neg c2]
      rw [if_neg c2,bC.j0,if_pos c,e2,Option.bind_some,e3,Option.bind_some]
      exact plain _ _ _ _ _ _ _ ho (by decide)
  · have ho:bD data f t = (⟨3,0,1,f,t,0,0⟩,⟨#[]⟩):=by
      unfold bD
      rw [← hD,← hh]
      simp only
      rw [if_neg c]
    rw [if_neg c,bC.j0,if_neg c]
    exact plain _ _ _ _ _ _ _ ho (by decide)
theorem BU (M:Nat → Nat) (hM0:∀ d,9000010 < M d) (hM:∀ d,M d + 4194304 ≤ M (d + 1)) (data:List Int) (hd:data.length ≤ 1048576) (hB:∀ x ∈ data,0 ≤ x ∧ x ≤ 255):∀ (d:Nat) (l:List aH) (f t:Nat) (u n:Int) (k:Nat),d ≤ 2 → l.length ≤ 8 → f ≤ t → t ≤ data.length → M (d + 1) < k → bC.f k data f t u n (2 - (d:Int)) l = some (if l.length < 8 then fA data (d + 1) l f t u n else l):=by
  intro d
  induction d with
  | zero =>
    intro l f t u n k _ hl h1 h2 hk
    have m0:=hM0 (0 + 1)
    generalize M (0 + 1) = M1 at m0 hk
    obtain ⟨q,rfl⟩ : ∃ q,k = q + 5:=⟨k - 5,by omega⟩
    by_cases c:l.length < 8
    · have hz:¬ ((bD data f t).1.f0 = 2 ∧ 1 ≤ 0 ∧ 1 ≤ (bD data f t).2.size ∧ (bD data f t).2.size ≤ 20):=fun z=>absurd z.2.1 (by decide)
      rw [if_pos c,Ai data hd hB l c f t h1 h2 u n (2 - ((0:Nat):Int)) true (by decide +kernel) q (by omega),if_neg (fun z=>absurd z.2.1 (by decide)),fA,if_neg hz]
    · rw [if_neg c,bC.f,if_pos (by omega)]
  | succ d ih =>
    intro l f t u n k hdd hl h1 h2 hk
    have m0:=hM0 (d + 1)
    have m2:=hM (d + 1)
    generalize M (d + 1 + 1) = M1 at m2 hk
    generalize hMd:M (d + 1) = M0 at m0 m2 ih
    clear hMd
    obtain ⟨q,rfl⟩ : ∃ q,k = q + 5:=⟨k - 5,by omega⟩
    by_cases c:l.length < 8
    · have h5:(decide ((wrap64 ((2 - ((d + 1:Nat):Int)) + 1)) ≥ 3)) = false:=by rw [wrap64_in (by omega)];exact decide_eq_false (by omega)
      obtain ⟨⟨p,p1,p2,p3⟩,p4⟩:=uN data hd f t h1 h2
      have hm:=zt data hd f t h1 h2
      have hnl:=qN data l f t u n
      rw [if_pos c,Ai data hd hB l c f t h1 h2 u n (2 - ((d + 1:Nat):Int)) false h5 q (by omega),fA]
      by_cases c2:(bD data f t).1.f0 = 2 ∧ 1 ≤ (bD data f t).2.size ∧ (bD data f t).2.size ≤ 20
      · have hsp:dF.f q data (bD data f t).1.f3 (bD data f t).1.f4 (bD data f t).2 = some ((iZ data f t).map fun x=>(⟨x.1,x.2⟩ : df)):=by
          unfold dF.f iZ
          rw [p1,p4,Int.toNat_natCast]
          exact vX data hd hB _ hm t h2 (t + 1) q p [] none (by omega) (fun o e=>by cases e) (by simp only [List.length_nil];omega) (by omega)
        have hin:∀ s ∈ iZ data f t,s.1 ≤ s.2 ∧ s.2 ≤ data.length:=fun s hs=>by
          have:=qR data (bD data f t).2 t 0 (t + 1) _ [] none (by simp) (fun o e=>by cases e) (Nat.zero_le _) s hs
          omega
        have hln:(iZ data f t).length ≤ 1048580:=by
          have:=uA data (bD data f t).2 t (t + 1) ((bD data f t).1.f3).toNat [] none
          unfold iZ
          simp only [List.length_nil] at this
          omega
        rw [if_pos ⟨c2.1,rfl,c2.2⟩,if_pos ⟨c2.1,by omega,c2.2⟩,hsp,Option.bind_some,List.length_map,hnl,show wrap64 (((l.length + 1:Nat):Int) - 1) = (l.length:Int) by rw [wrap64_in (by omega)];omega]
        have:=BB data (fA data (d + 1)) (iZ data f t) hln (2 - ((d + 1:Nat):Int)) l.length M0 (fun l2 s n k hs hl8 hk2=>by
          rw [show wrap64 (2 - ((d + 1:Nat):Int) + 1) = 2 - (d:Int) by rw [wrap64_in (by omega)];omega]
          exact ih l2 s.1 s.2 l.length n k (by omega) hl8 (hin s hs).1 (hin s hs).2 hk2) (fun l a b u n h=>wK data (d + 1) l a b u n h) (iZ data f t).length 0 q (fZ data l f t u n) (by omega) (by omega) (by omega)
        rw [List.drop_zero] at this
        exact this
      · rw [if_neg (fun z=>c2 ⟨z.1,z.2.2⟩),if_neg (fun z=>c2 ⟨z.1,z.2.2⟩)]
    · rw [if_neg c,bC.f,if_pos (by omega)]
def kJ (data:List Int):List aH:=fA data 3 [] 0 data.length (-1) 0
def iU (d:Nat):Nat:=9000011 + 4194304 * d
theorem xW (data:List Int) (hd:data.length ≤ 1048576) (hB:∀ x ∈ data,0 ≤ x ∧ x ≤ 255) (k:Nat) (hk:iU 3 < k):o6.f k data = some (kJ data) ∧ jP.f k data = some (kJ data):=by
  have f0:∀ d,9000010 < iU d:=fun d=>by unfold iU;omega
  have f1:∀ d,iU d + 4194304 ≤ iU (d + 1):=fun d=>by unfold iU;omega
  have a1:=Gq iU (fun d=>by have:=f0 d;omega) f1 data hd hB 2 [] 0 data.length (-1) 0 k (by omega) (by decide) (Nat.zero_le _) (Nat.le_refl _) (by have h_:iU 2 + 4194304 ≤ iU 3:=f1 2;omega)
  have a2:=BU iU f0 f1 data hd hB 2 [] 0 data.length (-1) 0 k (by omega) (by decide) (Nat.zero_le _) (Nat.le_refl _) hk
  rw [if_pos (by decide)] at a2
  unfold o6.f jP.f pJ.f
  rw [Option.bind_some]
  exact ⟨by rw [show (1:Int) = 3 - ((2:Nat):Int) from rfl];exact (congrArg (fun z=>Option.bind z _) a1).trans rfl,(congrArg (fun z=>Option.bind z _) a2).trans rfl⟩
theorem yZ (data:List Int):(kJ data).length ≤ 8:=wK data 3 [] 0 data.length (-1) 0 (by decide)
theorem xJ (P:aH → Prop) (g:List aH → Nat → Nat → Int → Int → List aH) (here:Int) (N:Nat) (hg:∀ l a b u n,(∀ x ∈ l,P x) → a ≤ b → b ≤ N → ∀ x ∈ g l a b u n,P x):∀ (ss:List (Nat × Nat)) (i:Nat) (l:List aH),(∀ s ∈ ss,s.1 ≤ s.2 ∧ s.2 ≤ N) → (∀ x ∈ l,P x) → ∀ x ∈ ig g here ss i l,P x
  | [],_,_,_,h=>h
  | s :: ss,i,l,hs,h=>by
    rw [ig]
    refine xJ P g here N hg ss (i + 1) _ (fun s hs2=>hs s (by simp [hs2])) ?_
    split
    · exact hg l s.1 s.2 here _ h (hs s (by simp)).1 (hs s (by simp)).2
    · exact h
theorem AB (data:List Int) (f t:Nat):∀ s ∈ iZ data f t,((bD data f t).1.f3).toNat ≤ s.1 ∧ s.1 ≤ s.2 ∧ s.2 ≤ t:=qR data (bD data f t).2 t _ (t + 1) _ [] none (by simp) (fun o e=>by cases e) (Nat.le_refl _)
theorem Am (data:List Int) (P:aH → Prop) (hP:∀ (f t:Nat) (u n:Int),f ≤ t → t ≤ data.length → P ⟨(bD data f t).1.f0,(bD data f t).1.f1,(bD data f t).1.f2,(bD data f t).1.f3,(bD data f t).1.f4,u,n⟩):∀ (d:Nat) (l:List aH) (f t:Nat) (u n:Int),(∀ x ∈ l,P x) → f ≤ t → t ≤ data.length → ∀ x ∈ fA data d l f t u n,P x
  | 0,l,_,_,_,_,h,_,_=>h
  | d + 1,l,f,t,u,n,h,h1,h2=>by
    have hn:∀ x ∈ fZ data l f t u n,P x:=by
      intro x hx
      rcases List.mem_append.1 hx with g | g
      · exact h x g
      · obtain rfl:=List.mem_singleton.1 g
        exact hP f t u n h1 h2
    rw [fA]
    split
    · exact xJ P (fA data d) l.length data.length (fun l a b u n q1 q2 q3=>Am data P hP d l a b u n q1 q2 q3) _ _ _ (fun s hs=>by have:=AB data f t s hs;omega) hn
    · exact hn
theorem DN (data:List Int) (hd:data.length ≤ 1048576):∀ x ∈ kJ data,∃ a b:Nat,x.f3 = (a:Int) ∧ x.f4 = (b:Int) ∧ a ≤ b ∧ b ≤ data.length:=
  Am data _ (fun f t u n h1 h2=>by
    obtain ⟨⟨p,p1,p2,p3⟩,p4⟩:=uN data hd f t h1 h2
    exact ⟨p,t,p1,p4,p3,h2⟩) 3 [] 0 data.length (-1) 0 (by simp) (Nat.zero_le _) (Nat.le_refl _)
def lN (L:List aH):Prop:=
  (∀ (i:Nat) (x:aH),L[i]? = some x → (i = 0 ∧ x.f5 = -1) ∨ ∃ (p:Nat) (y:aH),p < i ∧ L[p]? = some y ∧ x.f5 = (p:Int) ∧ y.f0 = 2 ∧ y.f3 ≤ x.f3 ∧ x.f4 ≤ y.f4) ∧
  ∀ (i j:Nat) (x y:aH),i < j → L[i]? = some x → L[j]? = some y → x.f5 = y.f5 → x.f6 < y.f6
def vG (L:List aH) (f t u:Int):Prop:=(L = [] ∧ u = -1) ∨ ∃ (p:Nat) (y:aH),L[p]? = some y ∧ u = (p:Int) ∧ y.f0 = 2 ∧ y.f3 ≤ f ∧ t ≤ y.f4
theorem kW {α:Type} {L:List α} {i:Nat} {x:α} (h:L[i]? = some x):i < L.length:=(List.getElem?_eq_some_iff.1 h).1
theorem rf {α:Type} {L e:List α} {i:Nat} {x:α} (h:L[i]? = some x):(L ++ e)[i]? = some x:=by rw [List.getElem?_append_left (kW h)];exact h
theorem Cb (l:List aH) (x:aH) (h:lN l) (hu:vG l x.f3 x.f4 x.f5) (hn:∀ (i:Nat) (y:aH),l[i]? = some y → y.f5 = x.f5 → y.f6 < x.f6):lN (l ++ [x]):=by
  have cs:∀ (i:Nat) (y:aH),(l ++ [x])[i]? = some y → l[i]? = some y ∨ (i = l.length ∧ y = x):=by
    intro i y hy
    have hlt:=kW hy
    rw [List.length_append,List.length_singleton] at hlt
    rcases Nat.lt_or_ge i l.length with g | g
    · rw [List.getElem?_append_left g] at hy;exact .inl hy
    · obtain rfl:i = l.length:=by omega
      rw [List.getElem?_append_right (Nat.le_refl _),Nat.sub_self] at hy
      exact .inr ⟨rfl,(Option.some.inj hy).symm⟩
  refine ⟨?_,?_⟩
  · intro i y hy
    rcases cs i y hy with g | ⟨rfl,rfl⟩
    · rcases h.1 i y g with q | ⟨p,z,q1,q2,q3⟩
      · exact .inl q
      · exact .inr ⟨p,z,q1,rf q2,q3⟩
    · rcases hu with ⟨rfl,q⟩ | ⟨p,z,q2,q3,q4⟩
      · exact .inl ⟨rfl,q⟩
      · exact .inr ⟨p,z,kW q2,rf q2,q3,q4⟩
  · intro i j y z hij hy hz he
    rcases cs j z hz with g | ⟨rfl,rfl⟩
    · rcases cs i y hy with g2 | ⟨rfl,rfl⟩
      · exact h.2 i j y z hij g2 g he
      · have:=kW g;omega
    · rcases cs i y hy with g2 | ⟨rfl,rfl⟩
      · exact hn i y g2 he
      · omega
def Bv (l res:List aH) (u n:Int):Prop:=lN res ∧ (∃ e,res = l ++ e) ∧ (∀ x,res[l.length]? = some x → x.f5 = u ∧ x.f6 = n) ∧ ∀ (i:Nat) (x:aH),l.length < i → res[i]? = some x → (l.length:Int) ≤ x.f5
theorem vW (g:List aH → Nat → Nat → Int → Int → List aH) (here:Nat) (r:aH) (hr:r.f0 = 2) (N:Nat) (hg:∀ (l:List aH) (a b:Nat) (n:Int),lN l → l[here]? = some r → r.f3 ≤ (a:Int) → (b:Int) ≤ r.f4 → a ≤ b → b ≤ N → (∀ (i:Nat) (x:aH),l[i]? = some x → x.f5 = (here:Int) → x.f6 < n) → Bv l (g l a b here n) here n):∀ (ss:List (Nat × Nat)) (i:Nat) (cur:List aH),(∀ s ∈ ss,r.f3 ≤ (s.1:Int) ∧ (s.2:Int) ≤ r.f4 ∧ s.1 ≤ s.2 ∧ s.2 ≤ N) → lN cur → cur[here]? = some r → (∀ (j:Nat) (x:aH),cur[j]? = some x → x.f5 = (here:Int) → x.f6 < ((i + 1:Nat):Int)) → lN (ig g here ss i cur) ∧ (∃ e,ig g here ss i cur = cur ++ e) ∧ ∀ (j:Nat) (x:aH),cur.length ≤ j → (ig g here ss i cur)[j]? = some x → (here:Int) ≤ x.f5
  | [],i,cur,_,h,_,_=>⟨h,⟨[],by rw [ig,List.append_nil]⟩,fun j x hj hx=>absurd (kW hx) (by rw [ig];omega)⟩
  | s :: ss,i,cur,hs,h,hc,hn=>by
    rw [ig]
    have hh:=kW hc
    by_cases c:cur.length < 8
    · rw [if_pos c]
      obtain ⟨s1,s2,s3,s4⟩:=hs s (by simp)
      obtain ⟨n1,⟨e,n2⟩,n3,n4⟩:=hg cur s.1 s.2 ((i + 1:Nat):Int) h hc s1 s2 s3 s4 hn
      generalize hG:g cur s.1 s.2 here ((i + 1:Nat):Int) = G at n1 n2 n3 n4
      subst n2
      obtain ⟨k1,⟨e2,k2⟩,k3⟩:=vW g here r hr N hg ss (i + 1) (cur ++ e) (fun s hs2=>hs s (by simp [hs2])) n1 (rf hc) (fun j x hj hx=>by
        rcases Nat.lt_or_ge j cur.length with q | q
        · rw [List.getElem?_append_left q] at hj
          have:=hn j x hj hx
          omega
        · rcases Nat.lt_or_ge cur.length j with q2 | q2
          · have:=n4 j x q2 hj;omega
          · obtain rfl:j = cur.length:=by omega
            have:=(n3 x hj).2
            omega)
      refine ⟨k1,⟨e ++ e2,by rw [k2,List.append_assoc]⟩,fun j x hj hx=>?_⟩
      rcases Nat.lt_or_ge j (cur ++ e).length with q | q
      · rw [k2,List.getElem?_append_left q] at hx
        rcases Nat.lt_or_ge cur.length j with q2 | q2
        · have:=n4 j x q2 hx;omega
        · obtain rfl:j = cur.length:=by omega
          have:=(n3 x hx).1
          omega
      · exact k3 j x q hx
    · rw [if_neg c]
      exact vW g here r hr N hg ss (i + 1) cur (fun s hs2=>hs s (by simp [hs2])) h hc (fun j x hj hx=>by have:=hn j x hj hx;omega)
theorem yw (data:List Int) (hd:data.length ≤ 1048576):∀ (d:Nat) (l:List aH) (f t:Nat) (u n:Int),lN l → vG l (f:Int) (t:Int) u → (∀ (i:Nat) (x:aH),l[i]? = some x → x.f5 = u → x.f6 < n) → f ≤ t → t ≤ data.length → Bv l (fA data d l f t u n) u n
  | 0,l,f,t,u,n,h,_,_,_,_=>⟨h,⟨[],by rw [fA,List.append_nil]⟩,fun x hx=>absurd (kW hx) (by rw [fA];omega),fun i x hi hx=>absurd (kW hx) (by rw [fA];omega)⟩
  | d + 1,l,f,t,u,n,h,hu,hn,h1,h2=>by
    obtain ⟨⟨p,p1,p2,p3⟩,p4⟩:=uN data hd f t h1 h2
    have hup:vG l (bD data f t).1.f3 (bD data f t).1.f4 u:=by
      rcases hu with q | ⟨a,y,q1,q2,q3,q4,q5⟩
      · exact .inl q
      · exact .inr ⟨a,y,q1,q2,q3,by omega,by omega⟩
    have hnow:lN (fZ data l f t u n):=Cb l _ h hup hn
    have hat:(fZ data l f t u n)[l.length]? = some ⟨(bD data f t).1.f0,(bD data f t).1.f1,(bD data f t).1.f2,(bD data f t).1.f3,(bD data f t).1.f4,u,n⟩:=by
      unfold fZ
      rw [List.getElem?_append_right (Nat.le_refl _),Nat.sub_self]
      rfl
    have hlen:=qN data l f t u n
    rw [fA]
    split
    · next c =>
      have hsp:=AB data f t
      obtain ⟨k1,⟨e,k2⟩,k3⟩:=vW (fA data d) l.length ⟨(bD data f t).1.f0,(bD data f t).1.f1,(bD data f t).1.f2,(bD data f t).1.f3,(bD data f t).1.f4,u,n⟩ c.1 data.length (fun l2 a b n2 g1 g2 g3 g4 g5 g6 g7=>yw data hd d l2 a b l.length n2 g1 (.inr ⟨l.length,_,g2,rfl,c.1,g3,g4⟩) g7 g5 g6) (iZ data f t) 0 (fZ data l f t u n) (fun s hs=>by
        have:=hsp s hs
        refine ⟨?_,?_,by omega,by omega⟩
        · show (bD data f t).1.f3 ≤ (s.1:Int);omega
        · show (s.2:Int) ≤ (bD data f t).1.f4;omega) hnow hat (fun j x hj hx=>by
        rcases hnow.1 j x hj with ⟨_,q⟩ | ⟨a,y,q1,q2,q3,_⟩
        · omega
        · have:=kW hj
          omega)
      refine ⟨k1,⟨_ :: e,by rw [k2];unfold fZ;rw [List.append_assoc];rfl⟩,fun x hx=>?_,fun i x hi hx=>k3 i x (by omega) hx⟩
      rw [k2,rf hat] at hx
      obtain rfl:=Option.some.inj hx
      exact ⟨rfl,rfl⟩
    · refine ⟨hnow,⟨_,rfl⟩,fun x hx=>?_,fun i x hi hx=>absurd (kW hx) (by omega)⟩
      rw [hat] at hx
      obtain rfl:=Option.some.inj hx
      exact ⟨rfl,rfl⟩
theorem Cm (data:List Int) (hd:data.length ≤ 1048576):lN (kJ data):=
  (yw data hd 3 [] 0 data.length (-1) 0 ⟨fun i x h=>by simp at h,fun i j x y _ h=>by simp at h⟩ (.inl ⟨rfl,rfl⟩) (fun i x h=>by simp at h) (Nat.zero_le _) (Nat.le_refl _)).1
theorem yl (A:List Int) (x:Int) (R:List Int):rd (A ++ x :: R) (A.length:Int) = x:=by
  rw [kD _ A.length (by simp)]
  simp
theorem EY:∀ (n:Nat) (M A C:List Int) (k:Nat),M.length = n → (A ++ M ++ C).length ≤ 1048576 → n < k → gU.l0 k (A ++ M ++ C) (A.length:Int) ((A.length:Int) + (M.length:Int) - 1) = some (A ++ M.reverse ++ C):=by
  intro n
  induction n using Nat.strongRecOn with
  | _ n ih =>
    intro M A C k hM hl hk
    obtain ⟨k,rfl⟩ : ∃ q,k = q + 1:=⟨k - 1,by omega⟩
    rw [gU.l0]
    match M,hM with
    | [],hM=>rw [if_neg (by simp only [List.length_nil];omega)];rfl
    | [a],hM=>rw [if_neg (by simp only [List.length_cons,List.length_nil];omega)];rfl
    | a :: x :: r,hM =>
      obtain ⟨M',b,hR⟩ : ∃ M' b,x :: r = M' ++ [b]:=⟨(x :: r).dropLast,(x :: r).getLast (by simp),(List.dropLast_concat_getLast (by simp)).symm⟩
      rw [hR] at hM hl ⊢
      have hlM:(a :: (M' ++ [b])).length = M'.length + 2:=by simp
      rw [hlM] at hM
      have hx3:(A.length:Int) + ((a :: (M' ++ [b])).length:Int) - 1 = ((A ++ a :: M').length:Int):=by rw [hlM,List.length_append,List.length_cons];omega
      have hL:(A ++ a :: (M' ++ [b]) ++ C).length = A.length + M'.length + 2 + C.length:=by simp;omega
      rw [hL] at hl
      rw [hx3]
      have e1:A ++ a :: (M' ++ [b]) ++ C = (A ++ a :: M') ++ b :: C:=by simp
      have e2:A ++ a :: (M' ++ [b]) ++ C = A ++ a :: (M' ++ b :: C):=by simp
      have lA:(A ++ a :: M').length = A.length + M'.length + 1:=by simp;omega
      have r1:rd (A ++ a :: (M' ++ [b]) ++ C) ((A ++ a :: M').length:Int) = b:=by rw [e1];exact yl _ b C
      have r2:rd (A ++ a :: (M' ++ [b]) ++ C) (A.length:Int) = a:=by rw [e2];exact yl A a _
      rw [if_pos (by omega),if_pos (by omega),if_pos (by omega),if_pos (by omega),if_pos (by omega),r1,r2,Int.toNat_natCast,Int.toNat_natCast]
      have e3:((A ++ a :: (M' ++ [b]) ++ C).set A.length b).set (A ++ a :: M').length a = (A ++ [b]) ++ M' ++ (a :: C):=by
        rw [e2,List.set_append_right _ _ (Nat.le_refl _),Nat.sub_self,List.set_cons_zero,List.set_append_right _ _ (by omega),show (A ++ a :: M').length - A.length = M'.length + 1 by omega,List.set_cons_succ,List.set_append_right _ _ (Nat.le_refl _),Nat.sub_self,List.set_cons_zero]
        simp
      have w1:wrap64 ((A.length:Int) + 1) = ((A ++ [b]).length:Int):=by rw [wrap_succ A.length (by omega)];simp
      have w2:wrap64 (((A ++ a :: M').length:Int) - 1) = ((A ++ [b]).length:Int) + (M'.length:Int) - 1:=by rw [wrap64_in (by omega),lA];simp;omega
      rw [e3,w1,w2]
      clear w1 w2
      rw [ih M'.length (by omega) M' (A ++ [b]) (a :: C) k rfl (by simp;omega) (by omega)]
      congr 1
      simp
theorem BD (l:List Int) (hl:l.length ≤ 1048576) (k:Nat) (hk:l.length < k):gU.f k l = some l.reverse:=by
  unfold gU.f
  have:=EY l.length l [] [] k rfl (by simp;omega) hk
  rw [wrap64_in (by omega)]
  simp only [List.nil_append,List.append_nil,List.length_nil] at this
  rw [show ((0:Nat):Int) + (l.length:Int) - 1 = (l.length:Int) - 1 by omega] at this
  exact this
theorem uT (L:List aH) (i:Nat) (x:aH) (h:L[i]? = some x):af L (i:Int) = x:=by
  unfold af
  rw [Int.toNat_natCast,List.getD_eq_getElem?_getD,h]
  rfl
def sZ (a n:Int) (x:aH):Prop:=x.f5 = a ∧ x.f6 = n
instance (a n:Int) (x:aH):Decidable (sZ a n x):=inferInstanceAs (Decidable (x.f5 = a ∧ x.f6 = n))
def kR (a n:Int):List aH → Nat → Int
  | [],_=>-1
  | x :: xs,i=>if sZ a n x then (i:Int) else kR a n xs (i + 1)
theorem FH (L:List aH) (h:lN L):L.Pairwise (fun x y=>¬ (x.f5 = y.f5 ∧ x.f6 = y.f6)):=by
  rw [List.pairwise_iff_getElem]
  intro i j hi hj hij q
  have:=h.2 i j L[i] L[j] hij (List.getElem?_eq_getElem hi) (List.getElem?_eq_getElem hj) q.1
  omega
theorem Dw (L:List aH) (j:Nat) (h:j < L.length):af L (j:Int) = L[j]:=by
  unfold af
  rw [Int.toNat_natCast,List.getD_eq_getElem?_getD,List.getElem?_eq_getElem h]
  rfl
theorem yc (L:List aH) (hL:L.length ≤ 1000) (a n:Int):∀ (m j k:Nat),L.length = j + m → m < k → iR.l0 k L a n (j:Int) = some (kR a n (L.drop j) j)
  | 0,j,k,h,hk=>by
    obtain ⟨k,rfl⟩ : ∃ q,k = q + 1:=⟨k - 1,by omega⟩
    rw [iR.l0,if_neg (by omega),List.drop_eq_nil_of_le (by omega)]
    rfl
  | m + 1,j,k,h,hk=>by
    obtain ⟨k,rfl⟩ : ∃ q,k = q + 1:=⟨k - 1,by omega⟩
    have hj:j < L.length:=by omega
    rw [iR.l0,if_pos (by omega),if_pos (by omega),Dw L j hj,wrap_succ j (by omega),yc L hL a n m (j + 1) k (by omega) (by omega),List.drop_eq_getElem_cons hj,kR]
    by_cases c:L[j].f5 = a
    · rw [if_pos c]
      by_cases d:L[j].f6 = n
      · rw [if_pos d,if_pos ⟨c,d⟩]
      · rw [if_neg d,if_neg (fun q=>d q.2)]
    · rw [if_neg c,if_neg (fun q=>c q.1)]
theorem CJ (L:List aH) (hL:L.length ≤ 1000) (a n:Int) (k:Nat) (hk:L.length < k):iR.f k L a n = some (kR a n L 0):=yc L hL a n L.length 0 k (by omega) hk
def lg (L:List aH):List Int → Int → Int
  | [],p=>p
  | n :: ns,p=>if kR p n L 0 < 0 then -1 else lg L ns (kR p n L 0)
theorem yJ (L:List aH) (hL:L.length ≤ 1000) (path:List Int) (hp:path.length ≤ 1048576):∀ (m i k:Nat) (p:Int),path.length = i + m → 1100 + m < k → 0 ≤ p → jl.l0 k L path (path.length:Int) (i:Int) p = some (if lg L (path.drop i) p < 0 then (4,0) else (0,lg L (path.drop i) p))
  | 0,i,k,p,h,hk,h0=>by
    obtain ⟨k,rfl⟩ : ∃ q,k = q + 1:=⟨k - 1,by omega⟩
    rw [jl.l0,if_neg (by omega),List.drop_eq_nil_of_le (by omega),lg,if_neg (by omega)]
  | m + 1,i,k,p,h,hk,h0=>by
    obtain ⟨k,rfl⟩ : ∃ q,k = q + 1:=⟨k - 1,by omega⟩
    have hlt:i < path.length:=by omega
    rw [jl.l0,if_pos (by omega),if_pos (by omega),if_pos (by omega),kD path i hlt,CJ L hL p path[i] k (by omega),Option.bind_some,List.drop_eq_getElem_cons hlt,lg]
    by_cases c:kR p path[i] L 0 < 0
    · rw [if_pos c,if_pos c,if_pos (by decide)]
    · rw [if_neg c,if_neg c,wrap_succ i (by omega)]
      exact yJ L hL path hp m (i + 1) k _ (by omega) (by omega) (by omega)
def kE (L:List aH):Nat → Nat → Prop
  | 0,i=>i = 0
  | m + 1,i=>∃ (x:aH) (p:Nat),L[i]? = some x ∧ x.f5 = (p:Int) ∧ kE L m p
theorem sG (L e:List aH):∀ (m i:Nat),kE L m i → kE (L ++ e) m i
  | 0,_,h=>h
  | m + 1,i,⟨x,p,h1,h2,h3⟩ => ⟨x,p,rf h1,h2,sG L e m p h3⟩
theorem uJ (g:List aH → Nat → Nat → Int → Int → List aH) (here:Int) (hg:∀ l a b u n,∃ e,g l a b u n = l ++ e):∀ (ss:List (Nat × Nat)) (i:Nat) (l:List aH),∃ e,ig g here ss i l = l ++ e
  | [],_,l=>⟨[],by rw [ig,List.append_nil]⟩
  | s :: ss,i,l=>by
    rw [ig]
    by_cases c:l.length < 8
    · obtain ⟨e,he⟩:=hg l s.1 s.2 here ((i + 1:Nat):Int)
      obtain ⟨e2,he2⟩:=uJ g here hg ss (i + 1) (l ++ e)
      rw [if_pos c,he]
      exact ⟨e ++ e2,by rw [he2,List.append_assoc]⟩
    · rw [if_neg c]
      exact uJ g here hg ss (i + 1) l
theorem xh (data:List Int):∀ (d:Nat) (l:List aH) (f t:Nat) (u n:Int),∃ e,fA data d l f t u n = l ++ e
  | 0,l,_,_,_,_=>⟨[],by rw [fA,List.append_nil]⟩
  | d + 1,l,f,t,u,n=>by
    rw [fA]
    split
    · obtain ⟨e,he⟩:=uJ (fA data d) l.length (fun l a b u n=>xh data d l a b u n) (iZ data f t) 0 (fZ data l f t u n)
      rw [he]
      unfold fZ
      exact ⟨_ :: e,by rw [List.append_assoc];rfl⟩
    · exact ⟨_,rfl⟩
theorem wW (g:List aH → Nat → Nat → Int → Int → List aH) (here mh M B:Nat) (hp:∀ l a b u n,∃ e,g l a b u n = l ++ e) (hg:∀ (l:List aH) (a b:Nat) (n:Int),kE l mh here → here < l.length → ∀ i,l.length ≤ i → i < (g l a b here n).length → ∃ m,m ≤ M ∧ kE (g l a b here n) m i):∀ (ss:List (Nat × Nat)) (i:Nat) (cur:List aH),kE cur mh here → here < cur.length → (∀ j,B ≤ j → j < cur.length → ∃ m,m ≤ M ∧ kE cur m j) → ∀ j,B ≤ j → j < (ig g here ss i cur).length → ∃ m,m ≤ M ∧ kE (ig g here ss i cur) m j
  | [],_,_,_,_,h=>h
  | s :: ss,i,cur,h1,h2,h3=>by
    rw [ig]
    by_cases c:cur.length < 8
    · rw [if_pos c]
      have hg1:=hg cur s.1 s.2 ((i + 1:Nat):Int) h1 h2
      obtain ⟨e,he⟩:=hp cur s.1 s.2 here ((i + 1:Nat):Int)
      rw [he] at hg1 ⊢
      refine wW g here mh M B hp hg ss (i + 1) (cur ++ e) (sG cur e mh here h1) (by rw [List.length_append];omega) (fun j j1 j2=>?_)
      rcases Nat.lt_or_ge j cur.length with q | q
      · obtain ⟨m,m1,m2⟩:=h3 j j1 q
        exact ⟨m,m1,sG cur e m j m2⟩
      · exact hg1 j q j2
    · rw [if_neg c]
      exact wW g here mh M B hp hg ss (i + 1) cur h1 h2 h3
theorem Aj (data:List Int):∀ (d:Nat) (l:List aH) (f t:Nat) (u n:Int) (m0:Nat),((l = [] ∧ m0 = 0) ∨ ∃ (p m:Nat),u = (p:Int) ∧ kE l m p ∧ m0 = m + 1) → ∀ i,l.length ≤ i → i < (fA data d l f t u n).length → ∃ m,m ≤ m0 + (d - 1) ∧ kE (fA data d l f t u n) m i
  | 0,l,_,_,_,_,_,_,i,h1,h2=>absurd h2 (by rw [fA];omega)
  | d + 1,l,f,t,u,n,m0,hu,i,h1,h2=>by
    have hlen:=qN data l f t u n
    have hnow:kE (fZ data l f t u n) m0 l.length:=by
      rcases hu with ⟨rfl,rfl⟩ | ⟨p,m,e1,e2,rfl⟩
      · rfl
      · refine ⟨⟨(bD data f t).1.f0,(bD data f t).1.f1,(bD data f t).1.f2,(bD data f t).1.f3,(bD data f t).1.f4,u,n⟩,p,?_,e1,sG l _ m p e2⟩
        unfold fZ
        rw [List.getElem?_append_right (Nat.le_refl _),Nat.sub_self]
        rfl
    have hall:∀ j,l.length ≤ j → j < (fZ data l f t u n).length → ∃ m,m ≤ m0 + (d + 1 - 1) ∧ kE (fZ data l f t u n) m j:=fun j j1 j2=>by
      obtain rfl:j = l.length:=by omega
      exact ⟨m0,by omega,hnow⟩
    rw [fA] at h2 ⊢
    by_cases c:(bD data f t).1.f0 = 2 ∧ 1 ≤ d ∧ 1 ≤ (bD data f t).2.size ∧ (bD data f t).2.size ≤ 20
    · rw [if_pos c] at h2 ⊢
      refine wW (fA data d) l.length m0 (m0 + (d + 1 - 1)) l.length (fun l a b u n=>xh data d l a b u n) (fun l2 a b n2 g1 g2 j g3 g4=>?_) (iZ data f t) 0 (fZ data l f t u n) hnow (by omega) hall i h1 h2
      obtain ⟨m,m1,m2⟩:=Aj data d l2 a b l.length n2 (m0 + 1) (.inr ⟨l.length,m0,rfl,g1,rfl⟩) j g3 g4
      exact ⟨m,by omega,m2⟩
    · rw [if_neg c] at h2 ⊢
      exact hall i h1 h2
theorem D7 (data:List Int):∀ i,i < (kJ data).length → ∃ m,m ≤ 2 ∧ kE (kJ data) m i:=fun i h=>Aj data 3 [] 0 data.length (-1) 0 0 (.inl ⟨rfl,rfl⟩) i (Nat.zero_le _) h
theorem zV (a n:Int):∀ (l:List aH) (i0 j:Nat) (x:aH),l.Pairwise (fun x y=>¬ (x.f5 = y.f5 ∧ x.f6 = y.f6)) → l[j]? = some x → sZ a n x → kR a n l i0 = ((i0 + j:Nat):Int)
  | [],_,_,_,_,h,_=>by simp at h
  | y :: ys,i0,0,x,_,h,hx=>by
    obtain rfl:y = x:=Option.some.inj h
    rw [kR,if_pos hx]
    rfl
  | y :: ys,i0,j + 1,x,hp,h,hx=>by
    obtain ⟨p1,p2⟩:=List.pairwise_cons.1 hp
    rw [List.getElem?_cons_succ] at h
    have hy:¬ sZ a n y:=fun q=>p1 x (List.mem_of_getElem? h) ⟨q.1.trans hx.1.symm,q.2.trans hx.2.symm⟩
    rw [kR,if_neg hy,zV a n ys (i0 + 1) j x p2 h hx]
    congr 1
    omega
theorem Ag (L:List aH) (n:Int):∀ (A:List Int) (p q:Int),lg L A p = q → 0 ≤ q → lg L (A ++ [n]) p = if kR q n L 0 < 0 then -1 else kR q n L 0
  | [],p,q,h,_=>by
    have e:p = q:=h
    rw [List.nil_append,lg,lg,e]
  | m :: A,p,q,h,h0=>by
    rw [lg] at h
    rw [List.cons_append,lg]
    by_cases c:kR p m L 0 < 0
    · rw [if_pos c] at h;omega
    · rw [if_neg c] at h ⊢
      exact Ag L n A _ q h h0
theorem xY (L:List aH) (hL:L.length ≤ 1000) (hi:lN L):∀ (m i:Nat),m ≤ 10 → i < L.length → kE L m i → ∃ P:List Int,P.length = m ∧ lg L P 0 = (i:Int) ∧ ∀ (k:Nat) (acc:List Int),acc.length + m ≤ 1000 → m + 1 + 1000 < k → jb.l0 k (i:Int) L acc = some (0,P ++ acc.reverse)
  | 0,i,_,h,hl=>by
    obtain rfl:i = 0:=hl
    refine ⟨[],rfl,rfl,fun k acc ha hk=>?_⟩
    obtain ⟨k,rfl⟩ : ∃ q,k = q + 1:=⟨k - 1,by omega⟩
    rw [jb.l0,if_neg (by omega),BD acc (by omega) k (by omega)]
    rfl
  | m + 1,i,hm,h,⟨x,p,h1,h2,h3⟩ => by
    have hr:=uT L i x h1
    rcases hi.1 i x h1 with ⟨_,q⟩ | ⟨p2,y,q1,q2,q3,_⟩
    · omega
    · obtain rfl:p = p2:=by omega
      obtain ⟨P,e1,e2,e3⟩:=xY L hL hi m p (by omega) (kW q2) h3
      have hx:=zV (p:Int) x.f6 L 0 i x (FH L hi) h1 ⟨h2,rfl⟩
      rw [Nat.zero_add] at hx
      refine ⟨P ++ [x.f6],by simp;omega,?_,fun k acc ha hk=>?_⟩
      · rw [Ag L x.f6 P 0 p e2 (by omega),hx,if_neg (by omega)]
      · obtain ⟨k,rfl⟩ : ∃ q,k = q + 1:=⟨k - 1,by omega⟩
        rw [jb.l0,if_pos (by omega),if_pos (by omega),if_pos (by omega),if_pos (by omega),hr,q3,e3 k _ (by simp;omega) (by omega)]
        simp
theorem ES (data:List Int) (d:Nat) (l:List aH) (f t:Nat) (u n:Int):l.length + 1 ≤ (fA data (d + 1) l f t u n).length:=by
  have:=qN data l f t u n
  rw [fA]
  split
  · obtain ⟨e,he⟩:=uJ (fA data d) l.length (fun l a b u n=>xh data d l a b u n) (iZ data f t) 0 (fZ data l f t u n)
    rw [he,List.length_append]
    omega
  · omega
theorem Fb (l:List Int) (hB:∀ x ∈ l,0 ≤ x ∧ x ≤ 255) (hl:l.length ≤ 1048576):∃ v,qF.f l = some v ∧ v.size ≤ 100:=by
  obtain ⟨v,v1,v2,v3⟩:=lH l hB hl 0 8 (by omega) (by omega)
  obtain ⟨n,rfl⟩ : ∃ n:Nat,v = (n:Int):=⟨v.toNat,by omega⟩
  unfold qF.f mP.f
  rw [Option.bind_some,Option.bind_some]
  simp only
  rw [v1,Option.bind_some]
  simp only
  rw [if_pos (by omega),if_pos (by show (n:Int) < 8;omega)]
  refine ⟨_,rfl,?_⟩
  match n,v3 with
  | 0,_=>decide
  | 1,_=>decide
  | 2,_=>decide
  | 3,_=>decide
  | 4,_=>decide
  | 5,_=>decide
  | 6,_=>decide
  | 7,_=>decide
  | n + 8,h=>exact absurd h (by omega)
theorem Dx (data:List Int) (hd:data.length ≤ 400) (L:List aH) (hp:∀ k,iU 3 < k → jP.f k data = some L) (hl:L.length ≤ 8) (i:Nat) (hi:i < L.length) (P:List Int) (h:∀ (k:Nat) (acc:List Int),acc.length + 2 ≤ 1000 → 2000 < k → jb.l0 k (i:Int) L acc = some (0,P ++ acc.reverse)) (k:Nat) (hk:iU 3 < k):jb.f k data (i:Int) = some (0,P):=by
  have f3:9000000 < iU 3:=by unfold iU;omega
  have w:wrap64 ((L.length:Int) - 1) = (L.length:Int) - 1:=wrap64_in (by omega)
  have hin:kM.f (i:Int) 0 ((L.length:Int) - 1) = some true:=by
    unfold kM.f
    rw [if_pos (by omega),decide_eq_true (by omega)]
  unfold jb.f o8.f mW.f
  rw [if_neg (by omega),hp k hk,Option.bind_some,Option.bind_some,w,hin,Option.bind_some,if_pos rfl,Option.bind_some,if_pos rfl,h k [] (by simp) (by omega),List.reverse_nil,List.append_nil]
theorem Eo (l:List Int) (hB:∀ x ∈ l,0 ≤ x ∧ x ≤ 255) (hl:l.length ≤ 1048576) (data:List Int) (hd:data.length ≤ 400) (hdB:∀ x ∈ data,0 ≤ x ∧ x ≤ 255):∀ (n k i:Nat),(kJ data).length = i + n → iU 3 + 10 + 2 * n < k → cZ.l0 k l data (i:Int) 0 (kJ data) = some true:=by
  have hp:=fun k hk=>xW data (by omega) hdB k hk
  have hin:=DN data (by omega)
  have hinv:=Cm data (by omega)
  have hlev:=D7 data
  have hlen:=yZ data
  have hpos:1 ≤ (kJ data).length:=ES data 2 [] 0 data.length (-1) 0
  have f3:9000000 < iU 3:=by unfold iU;omega
  generalize kJ data = L at hp hin hinv hlev hlen hpos
  intro n
  induction n with
  | zero =>
    intro k i h hk
    obtain ⟨k,rfl⟩ : ∃ q,k = q + 1:=⟨k - 1,by omega⟩
    obtain ⟨v,v1,v2⟩:=Fb l hB hl
    obtain ⟨t1,t2⟩:=wY v (by omega) k (by omega)
    have t3:nZ.f k v = some (typ v):=by unfold nZ.f;rw [t1];rfl
    have pp:jk.f k data = some (0,L):=by unfold jk.f;rw [if_neg (by omega),(hp k (by omega)).1,Option.bind_some]
    rw [cZ.l0,if_neg (by omega),v1,Option.bind_some,if_pos (by omega),if_pos (by omega),t2,Option.bind_some,t3,Option.bind_some,if_pos (by simp),pp,Option.bind_some,beq_self_eq_true]
  | succ n ih =>
    intro k i h hk
    obtain ⟨k,rfl⟩ : ∃ q,k = q + 2:=⟨k - 2,by omega⟩
    have hi:i < L.length:=by omega
    have hx:L[i]? = some L[i]:=List.getElem?_eq_getElem hi
    have hr:=uT L i _ hx
    obtain ⟨m,m1,m2⟩:=hlev i hi
    obtain ⟨P,p1,p2,p3⟩:=xY L (by omega) hinv m i (by omega) hi m2
    have e1:=Dx data hd L (fun k hk=>(hp k hk).2) hlen i hi P (fun k acc h1 h2=>p3 k acc (by omega) (by omega)) (k + 1) (by omega)
    have e2:jl.f (k + 1) data P = some (0,(i:Int)):=by
      have:=yJ L (by omega) P (by omega) P.length 0 (k + 1) 0 (by omega) (by omega) (by omega)
      rw [List.drop_zero,p2,if_neg (by omega)] at this
      unfold jl.f
      rw [if_neg (by omega),(hp (k + 1) (by omega)).2,Option.bind_some]
      exact this
    obtain ⟨a,b,q1,q2,q3,q4⟩:=hin _ (List.getElem_mem hi)
    have next:=ih k (i + 1) (by omega) (by omega)
    rw [cZ.l0,if_pos (by omega),if_pos (by omega),e1,Option.bind_some,hr]
    simp only
    rw [if_neg (by omega),if_neg (by omega),if_neg (by omega),if_pos (by first | rfl | trivial),e2,Option.bind_some]
    simp only
    rw [if_pos (by first | rfl | trivial),decide_eq_false (by omega),cZ.j1,if_neg (by decide),wrap_succ i (by omega)]
    by_cases c:(i:Int) = 0
    · rw [if_pos c];exact next
    · rw [if_neg c]
      rcases hinv.1 i L[i] hx with ⟨q,_⟩ | ⟨p,y,z1,z2,z3,z4,z5,z6⟩
      · omega
      · rw [z3,if_neg (by omega),if_neg (by omega),if_pos (by omega),if_pos (by have:=kW z2;omega),uT L p y z2,if_neg (by omega),if_neg (by omega),if_pos z4]
        exact next
theorem FnNested:cZ.Pure:=by
  intro l hb _ hw
  have hB:=byte_wf hw
  obtain ⟨K,hK1,hK2,hK3⟩ : ∃ K,iU 3 < K ∧ 1048700 < K ∧ iU 3 + 100 < K:=⟨iU 3 + 1048800,by omega,by omega,by omega⟩
  refine ⟨K,?_⟩
  unfold cZ.f oH.f
  rw [Option.bind_some]
  by_cases hl:(l.length:Int) > 1048576
  · rw [decide_eq_true hl,if_pos rfl]
  · rw [decide_eq_false hl,if_neg (by decide)]
    obtain ⟨data,d1,d2,d3⟩:=EC l hB (by omega) K hK2
    rw [d1,Option.bind_some]
    by_cases c:(data.length:Int) > 400
    · have e1:kN.f K data = some (2,[]):=by unfold kN.f;rw [if_pos c]
      have e2:jk.f K data = some (2,[]):=by unfold jk.f;rw [if_pos c]
      rw [e1,Option.bind_some,if_neg (show ¬ (2:Int) = 0 by decide),e2,Option.bind_some]
      rfl
    · have e1:kN.f K data = some (0,kJ data):=by unfold kN.f;rw [if_neg c,(xW data d2 d3 K hK1).2,Option.bind_some]
      have hlen:=yZ data
      rw [e1,Option.bind_some,if_pos rfl]
      exact Eo l hB (by omega) data (by omega) d3 (kJ data).length K 0 (by omega) (by omega)
end Go.Proofs.YtecpanfndodjgaaGreatDoor.Pure
