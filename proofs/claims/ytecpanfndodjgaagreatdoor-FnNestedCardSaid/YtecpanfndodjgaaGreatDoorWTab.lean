/- Part of the proof;words that it uses. -/
import Derived.Test.YtecpanfndodjgaaGreatDoorWLast
import Derived.Test.YtecpanfndodjgaaGreatDoorWWords
namespace Go.Proofs.YtecpanfndodjgaaGreatDoorW.PrintLast
open Go.Proofs.YtecpanfndodjgaaGreatDoorW.PrintWords (ae)
def pO (md:Region.Mode) (o:Oper):List Nat:=(o.after.toList.filter (fun e=>Region.binds md e)).map (fun e=>e.on)
def wP (md:Region.Mode) (ops:Array Oper) (i:Nat) (oi:Oper):List Nat:=(List.range ops.size).filter fun j=>!(j == i) && match ops[j]? with
  | some oj=>!(oj.after.any (fun e=>Region.binds md e && e.on == i) || oi.apart ops oj)
  | none=>false
def gm (md:Region.Mode) (ops:Array Oper):Bool × List (List Nat × List Nat):=(Region.noSelect ops,(List.range ops.size).map fun i=>match ops[i]? with
  | some o=>(pO md o,wP md ops i o)
  | none=>([],[]))
def nV (T:List (List Nat × List Nat)) (l:List Bool) (i:Nat):Bool:=!l.getD i true && match T[i]? with
  | some r=>r.1.all (fun j=>l.getD j false)
  | none=>false
def pq (T:List (List Nat × List Nat)) (l:List Bool):List Nat:=(List.range T.length).filter (nV T l)
def sD (T:List (List Nat × List Nat)) (l:List Bool) (i:Nat):Bool:=match T[i]? with
  | some r=>r.2.all (fun j=>l.getD j true)
  | none=>false
def tH (T:List (List Nat × List Nat)) (l:List Bool):Bool:=(List.range T.length).all fun j=>!l.getD j false || match T[j]? with
  | some r=>r.1.all (fun k=>l.getD k false)
  | none=>true
def pM (T:List (List Nat × List Nat)) (i:Nat):Nat → Nat → Bool
  | 0,_=>false
  | fuel + 1,d=>match T[d]? with
    | some r=>r.1.any fun j=>j == i || pM T i fuel j
    | none=>false
def lastT (T:List (List Nat × List Nat)) (l:List Bool) (ds:List Nat) (i:Nat):Bool:=ds.all fun d=>l.getD d true || pM T i T.length d
section
variable {md:Region.Mode} {ops:Array Oper} {T:Bool × List (List Nat × List Nat)} {l l' li lj lk:Array Bool} {ds:List Nat} {i j k:Nat}
theorem gd (l:Array Bool) (j:Nat) (b:Bool):l.getD j b = l.toList.getD j b:=by simp [Array.getD_eq_getD_getElem?,List.getD_eq_getElem?_getD]
theorem yM (o:Oper) (p:Nat → Bool):o.after.all (fun e=>!Region.binds md e || p e.on) = (pO md o).all p:=by
  unfold pO
  rw [← Array.all_toList]
  induction o.after.toList with
  | nil=>rfl
  | cons e r ih =>
    rw [List.all_cons,ih,List.filter_cons]
    cases h:Region.binds md e <;> simp
theorem Gz (o:Oper) (p:Nat → Bool):o.after.any (fun e=>Region.binds md e && p e.on) = (pO md o).any p:=by
  unfold pO
  rw [← Array.any_toList]
  induction o.after.toList with
  | nil=>rfl
  | cons e r ih =>
    rw [List.any_cons,ih,List.filter_cons]
    cases h:Region.binds md e <;> simp
theorem tK:(gm md ops).2.length = ops.size:=by simp [gm]
theorem uk {o:Oper} (h:ops[i]? = some o):(gm md ops).2[i]? = some (pO md o,wP md ops i o):=by
  have hi:=(Array.getElem?_eq_some_iff.1 h).1
  unfold gm
  rw [List.getElem?_map,List.getElem?_range hi,Option.map_some,h]
theorem sQ (h:ops[i]? = none):(gm md ops).2[i]? = none:=by
  have hi:ops.size ≤ i:=Array.getElem?_eq_none_iff.1 h
  exact List.getElem?_eq_none (by rw [tK];exact hi)
theorem Dt:nV (gm md ops).2 l.toList i = (!l.getD i true && ((ops[i]?).map (·.after.all fun e=>!Region.binds md e || l.getD e.on false)).getD false):=by
  unfold nV
  rw [gd]
  cases h:ops[i]? with
  | none=>rw [sQ h];rfl
  | some o =>
    rw [uk h]
    simp only [Option.map_some,Option.getD_some]
    rw [← yM]
    simp only [gd]
theorem ready_eq:Region.ready md ops l = pq (gm md ops).2 l.toList:=by
  unfold Region.ready pq
  rw [tK]
  refine List.filter_congr (fun i _=>?_)
  rw [Dt]
theorem free_eq:Region.free md ops l i = sD (gm md ops).2 l.toList i:=by
  unfold Region.free sD
  cases h:ops[i]? with
  | none=>rw [sQ h]
  | some oi =>
    rw [uk h]
    simp only [wP]
    rw [List.all_filter]
    congr 1
    funext j
    rw [gd]
    cases hj:ops[j]? with
    | none=>cases (j == i) <;> cases (l.toList.getD j true) <;> simp
    | some oj =>
      cases (j == i) <;> cases (l.toList.getD j true) <;> cases (oj.after.any (fun e=>Region.binds md e && e.on == i) || oi.apart ops oj) <;> simp_all
theorem EU:Region.ru md ops l = tH (gm md ops).2 l.toList:=by
  unfold Region.ru tH
  rw [tK]
  congr 1
  funext j
  rw [gd]
  cases h:ops[j]? with
  | none=>rw [sQ h]
  | some o =>
    rw [uk h]
    simp only
    rw [← yM]
    simp only [gd]
theorem reach_eq:∀ (fuel d:Nat),Region.lG md ops i fuel d = pM (gm md ops).2 i fuel d
  | 0,_=>rfl
  | fuel + 1,d=>by
    unfold Region.lG pM
    cases h:ops[d]? with
    | none=>rw [sQ h]
    | some o =>
      rw [uk h]
      simp only
      rw [← Gz]
      congr 1
      funext e
      rw [reach_eq fuel]
theorem F7:Region.lastB md ops l ds i = lastT (gm md ops).2 l.toList ds i:=by
  unfold Region.lastB lastT
  rw [tK]
  congr 1
  funext d
  rw [gd,reach_eq]
theorem yQ (h:nV T.2 l.toList i = true) (hT:gm md ops = T):(Region.ready md ops l).contains i = true:=by
  subst hT
  rw [ready_eq]
  unfold pq
  rw [List.contains_iff_mem,List.mem_filter,List.mem_range]
  refine ⟨?_,h⟩
  unfold nV at h
  rw [Bool.and_eq_true] at h
  cases hq:(gm md ops).2[i]? with
  | none=>rw [hq] at h;simp at h
  | some r=>exact (List.getElem?_eq_some_iff.1 hq).1
theorem rP (h:(l.toList.set i true == l'.toList) = true):(l.setIfInBounds i true == l') = true:=by
  rw [beq_iff_eq] at h ⊢
  apply Array.ext'
  rw [Array.toList_setIfInBounds]
  exact h
def zI (T:Bool × List (List Nat × List Nat)) (l l':List Bool) (i:Nat):Bool:=T.1 && sD T.2 l i && nV T.2 l i && (l.set i true == l')
theorem Ej (hT:gm md ops = T) (h:zI T l.toList l'.toList i = true):qU md ops l l' i = true:=by
  simp only [zI,Bool.and_eq_true] at h
  obtain ⟨⟨⟨h1,h2⟩,h3⟩,h4⟩:=h
  have h5:=yQ h3 hT
  have h6:=rP h4
  subst hT
  simp only [qU,Bool.and_eq_true]
  exact ⟨⟨⟨h1,by rw [free_eq];exact h2⟩,h5⟩,h6⟩
def wX (T:Bool × List (List Nat × List Nat)) (ds:List Nat) (l l':List Bool) (i:Nat):Bool:=T.1 && sD T.2 l i && nV T.2 l i && tH T.2 l && lastT T.2 l ds i && (l.set i true == l')
theorem Em (hT:gm md ops = T) (h:wX T ds l.toList l'.toList i = true):takeB md ops ds l l' i = true:=by
  simp only [wX,Bool.and_eq_true] at h
  obtain ⟨⟨⟨⟨⟨h1,h2⟩,h3⟩,h4⟩,h5⟩,h6⟩:=h
  have h7:=yQ h3 hT
  have h8:=rP h6
  subst hT
  simp only [takeB,Bool.and_eq_true]
  exact ⟨⟨⟨⟨⟨h1,by rw [free_eq];exact h2⟩,h7⟩,by rw [EU];exact h4⟩,by rw [F7];exact h5⟩,h8⟩
theorem fO (hT:gm md ops = T) (h:(pq T.2 l.toList == [i] && l.toList.set i true == l'.toList) = true):pY md ops l l' i = true:=by
  simp only [Bool.and_eq_true] at h
  obtain ⟨h1,h2⟩:=h
  subst hT
  simp only [pY,Bool.and_eq_true]
  exact ⟨by rw [ready_eq];exact h1,rP h2⟩
theorem ny (hT:gm md ops = T) (h:(pq T.2 l.toList == [i,j] && l.toList.set i true == li.toList && l.toList.set j true == lj.toList) = true):(Region.ready md ops l == [i,j] && l.setIfInBounds i true == li && l.setIfInBounds j true == lj) = true:=by
  simp only [Bool.and_eq_true] at h ⊢
  obtain ⟨⟨h1,h2⟩,h3⟩:=h
  subst hT
  exact ⟨⟨by rw [ready_eq];exact h1,rP h2⟩,rP h3⟩
theorem nS (hT:gm md ops = T) (h:(pq T.2 l.toList == []) = true):(Region.ready md ops l == []) = true:=by
  subst hT
  rw [ready_eq]
  exact h
def oN (B:List Nat) (d:Nat):List Nat → Nat
  | []=>0
  | n :: r=>(2 ^ n ||| (if n < d then B.getD n 0 else 0)) ||| oN B d r
def lW (T:List (List Nat × List Nat)) (B:List Nat):Bool:=(List.range T.length).all fun d=>match T[d]? with
  | some r=>(B.getD d 0 ||| oN B d r.1) == oN B d r.1
  | none=>false
theorem zn {B:List Nat} {d i:Nat}:∀ {ns:List Nat},(oN B d ns).testBit i = true → ∃ n ∈ ns,n = i ∨ (n < d ∧ (B.getD n 0).testBit i = true)
  | [],h=>by simp [oN] at h
  | n :: r,h=>by
    unfold oN at h
    rw [Nat.testBit_or,Nat.testBit_or,Bool.or_eq_true,Bool.or_eq_true] at h
    rcases h with (h | h) | h
    · rw [Nat.testBit_two_pow] at h
      exact ⟨n,List.mem_cons_self,.inl (by simpa using h)⟩
    · by_cases hn:n < d
      · rw [if_pos hn] at h
        exact ⟨n,List.mem_cons_self,.inr ⟨hn,h⟩⟩
      · rw [if_neg hn] at h
        simp at h
    · obtain ⟨m,hm,h2⟩:=zn h
      exact ⟨m,List.mem_cons_of_mem _ hm,h2⟩
theorem Ae {T:List (List Nat × List Nat)} {B:List Nat} (hB:lW T B = true):∀ (fuel d:Nat),d < fuel → d < T.length → (B.getD d 0).testBit i = true → pM T i fuel d = true
  | 0,d,h,_,_=>by omega
  | fuel + 1,d,h,hd,hb=>by
    have h1:=List.all_eq_true.1 hB d (List.mem_range.2 hd)
    cases hr:T[d]? with
    | none=>rw [hr] at h1;simp at h1
    | some r =>
      rw [hr] at h1
      simp only [beq_iff_eq] at h1
      have h2:(oN B d r.1).testBit i = true:=by rw [← h1,Nat.testBit_or,hb,Bool.true_or]
      obtain ⟨n,hn,h3⟩:=zn h2
      unfold pM
      rw [hr]
      simp only
      rw [List.any_eq_true]
      refine ⟨n,hn,?_⟩
      rcases h3 with rfl | ⟨h4,h5⟩
      · simp
      · rw [Ae hB fuel n (by omega) (by omega) h5,Bool.or_true]
def Bz (T:List (List Nat × List Nat)) (B:List Nat) (l:List Bool) (ds:List Nat) (i:Nat):Bool:=ds.all fun d=>l.getD d true || (decide (d < T.length) && (B.getD d 0).testBit i)
def AA (T:Bool × List (List Nat × List Nat)) (B:List Nat) (ds:List Nat) (l l':List Bool) (i:Nat):Bool:=T.1 && sD T.2 l i && nV T.2 l i && tH T.2 l && Bz T.2 B l ds i && (l.set i true == l')
theorem iD {B:List Nat} (hT:gm md ops = T) (hB:lW T.2 B = true) (h:AA T B ds l.toList l'.toList i = true):takeB md ops ds l l' i = true:=by
  refine Em hT ?_
  simp only [AA,wX,Bool.and_eq_true] at h ⊢
  obtain ⟨⟨⟨⟨⟨h1,h2⟩,h3⟩,h4⟩,h5⟩,h6⟩:=h
  refine ⟨⟨⟨⟨⟨h1,h2⟩,h3⟩,h4⟩,?_⟩,h6⟩
  unfold Bz at h5
  unfold lastT
  rw [List.all_eq_true] at h5 ⊢
  intro d hd
  have h7:=h5 d hd
  rw [Bool.or_eq_true,Bool.and_eq_true,decide_eq_true_eq] at h7
  rcases h7 with h7 | ⟨h8,h9⟩
  · rw [h7,Bool.true_or]
  · rw [Ae hB _ d h8 h8 h9,Bool.or_true]
theorem nz {P:Program} {Q:Exit → Act → World → Prop} {S:World → Prop} {n:Nat} {a:Act} {w:World} {B:List Nat} (hT:gm md ops = T) (hB:lW T.2 B = true) (h:ae (gm md ops = T) → ae (lW T.2 B = true) → ed P md ops Q S ds n l a w):ed P md ops Q S ds n l a w:=h ⟨hT⟩ ⟨hB⟩
end
def mr:Code → Nat → Option (Array Oper)
  | .region id ops _,k=>if id == k then some ops else none
  | .seq a b,k=>match mr a k with
    | some o=>some o
    | none=>mr b k
  | .cond _ a b,k=>match mr a k with
    | some o=>some o
    | none=>mr b k
  | .block _ c,k=>mr c k
  | .loop c,k=>mr c k
  | .scope c,k=>mr c k
  | .rangeFunc _ _ a b,k=>match mr a k with
    | some o=>some o
    | none=>mr b k
  | _,_=>none
def opsOf (f:Func) (k:Nat):Array Oper:=((f.body.bind fun c=>mr c k)).getD #[]
end Go.Proofs.YtecpanfndodjgaaGreatDoorW.PrintLast
