/- Part of the proof;words that it uses. -/
import Derived.Test.YtecpanfndodjgaaGreatDoorWShare
import Derived.Test.YtecpanfndodjgaaGreatDoorWZeros
namespace Go.Proofs.YtecpanfndodjgaaGreatDoorW.PrintWords
open Go.RowKit
namespace Kd
def chunks (sz:Nat) (n:Nat) (inner:List Value):List (List Value):=(List.range n).map fun j=>(inner.drop (j * sz)).take sz
theorem qj (sz n:Nat) (inner:List Value):(chunks sz n inner).length = n:=by simp [chunks]
theorem Fz {sz n:Nat} {inner:List Value} {j:Nat} (hj:j < n):(chunks sz n inner)[j]? = some ((inner.drop (j * sz)).take sz):=by simp [chunks,hj]
theorem xI {sz n:Nat} {inner:List Value} {j:Nat} {c:List Value} (h:(chunks sz n inner)[j]? = some c):c = (inner.drop (j * sz)).take sz:=by
  have hj:j < n:=by have:=(List.getElem?_eq_some_iff.1 h).1;rwa [qj] at this
  rw [Fz hj] at h
  injection h with h
  exact h.symm
theorem Gl {α:Type} {Rr:α → List Value → Prop} {sz:Nat} {xs:List α} {inner:List Value} (h:ax Rr sz xs inner) (hR:∀ x c,Rr x c → c.length = sz ∧ ∀ u ∈ c,u.oneCell' = true):ax (fun x cs=>cs = x ∧ cs.length = sz ∧ ∀ u ∈ cs,u.oneCell' = true) sz (chunks sz xs.length inner) inner:=by
  refine ⟨by rw [qj];exact h.1,fun j p hj=>?_⟩
  have hjl:j < xs.length:=by have:=(List.getElem?_eq_some_iff.1 hj).1;rwa [qj] at this
  have hp:=xI hj
  exact ⟨hp.symm,hR _ _ (h.2 j _ (List.getElem?_eq_getElem hjl))⟩
section
variable {α:Type} {d:Kd α} {e base n cc g:Nat} {ok ok' okp S:Nat → Prop} {w w1 W W1:World} {A:Option Addr} {u v v1:Value} {xs:List α} {x:α} {c:List Value}
def N {α:Type} (d:Kd α) (e:Nat) (w:World) (base:Nat) (ok:Nat → Prop) (v:Value) (xs:List α):Prop:=
  (∀ k,v.ownBlock = some k → ok k) ∧ ∃ rows:List (List Value),rows.length = xs.length ∧ (raw d.sz).R e w base (fun k=>some k = v.ownBlock) v rows ∧ ∀ (j:Nat) (x:α) (c:List Value),xs[j]? = some x → rows[j]? = some c → FK d w (fun k=>ok k ∧ some k ≠ v.ownBlock) x c
theorem yP {sz:Nat} {rows:List (List Value)} (h:(raw sz).R e w base ok v rows):(raw sz).R e w base (fun k=>some k = v.ownBlock) v rows:=rW rfl h
theorem Eg {sz:Nat} {rows:List (List Value)} (h:(raw sz).R e w base ok v rows):(raw sz).R e w base (fun _=>True) v rows:=aU h (fun _ _=>trivial)
theorem gQ (h:N d e w base ok v xs) (hok:∀ k,ok k → ok' k):N d e w base ok' v xs:=by
  obtain ⟨h0,rows,hl,hR,hf⟩:=h
  exact ⟨fun k hk=>hok k (h0 k hk),rows,hl,hR,fun j x c hx hc=>sH (hf j x c hx hc) (fun k hk=>⟨hok k hk.1,hk.2⟩)⟩
theorem xC (h:N d e w base ok v xs):∀ k,v.ownBlock = some k → k < w.heap.size:=by
  obtain ⟨_,rows,_,hR,_⟩:=h
  exact aZ hR
theorem yG (h:N d e w base ok v xs):∀ k,v.ownBlock = some k → base ≤ k:=by
  obtain ⟨_,rows,_,hR,_⟩:=h
  exact bT hR
theorem FU (h:N d e w base ok v xs):v.ownBlock = none ∨ ∃ k,v.ownBlock = some k ∧ base ≤ k:=by
  obtain ⟨_,rows,_,hR,_⟩:=h
  exact mM hR
theorem mi (h:N d e w base ok v xs):∀ k,v.ownBlock = some k → ∃ cells,fB w k cells e:=by
  obtain ⟨_,rows,_,hR,_⟩:=h
  exact lF hR
theorem BG (h:N d e w base ok v xs) {t:Nat} {cells:Array Value} (hb:w.heap[g]? = some (.cells cells t (0,0))) (ht:e ≠ t):some g ≠ v.ownBlock:=by
  obtain ⟨_,rows,_,hR,_⟩:=h
  exact pK hR hb ht
theorem yU (h:N d e w base ok v xs):N d e w base (fun k=>ok k ∧ k < w.heap.size) v xs:=by
  have hlt:=xC h
  obtain ⟨h0,rows,hl,hR,hf⟩:=h
  exact ⟨fun k hk=>⟨h0 k hk,hlt k hk⟩,rows,hl,hR,fun j x c hx hc=>sH (wV (hf j x c hx hc)) (fun k hk=>⟨⟨hk.1.1,hk.2⟩,hk.1.2⟩)⟩
theorem vN {base':Nat} (h:N d e w base ok v xs) (hb:base' ≤ base):N d e w base' ok v xs:=by
  obtain ⟨h0,rows,hl,hR,hf⟩:=h
  exact ⟨h0,rows,hl,aQ hR hb,hf⟩
theorem zT (h:N d e w base ok v xs) (hm:∀ k,ok k → k < w.heap.size → w1.heap[k]? = w.heap[k]?):N d e w1 base ok v xs:=by
  obtain ⟨h0,rows,hl,hR,hf⟩:=h
  exact ⟨h0,rows,hl,pz hR (fun k hk hlt=>hm k (h0 k hk.symm) hlt),fun j x c hx hc=>wC (hf j x c hx hc) (fun k hk hlt=>hm k hk.1 hlt)⟩
theorem FZ (h:N d e w base ok v xs) (hb:Below w.heap.size w w1):N d e w1 base ok v xs:=zT h (fun k _ hk=>hb.block k hk)
theorem qf (h:N d e w base ok v xs) (hk:aA w w1 g none) (hok:∀ k,ok k → k ≠ g):N d e w1 base ok v xs:=zT h (fun k ho hlt=>hk.2 k hlt (hok k ho) (by simp))
theorem lq (h:N d e W base ok v xs) (hbase:∀ k,u.ownBlock = some k → W.heap.size ≤ k) (hb:Below W.heap.size W w1):N d e w1 base (fun k=>ok k ∧ some k ≠ u.ownBlock) v xs:=
  gQ (FZ (yU h) hb) (fun k hk=>⟨hk.1,fun he=>by have:=hbase k he.symm;have:=hk.2;omega⟩)
theorem qc (h:N d e W base (fun k=>ok k ∧ k ≠ g) v xs) (hk:aA W w1 g none):N d e w1 base (fun k=>ok k ∧ k < W.heap.size) v xs:=gQ (qf (yU h) hk (fun _ hk=>hk.1.2)) (fun _ hk=>⟨hk.1.1,hk.2⟩)
theorem pR {b:Nat} (h:N d e w1 base (fun k=>ok k ∧ k < b) v xs) (hbase:∀ k,u.ownBlock = some k → b ≤ k):N d e w1 base (fun k=>(ok k ∧ some k ≠ u.ownBlock) ∧ k < b) v xs:=
  gQ h (fun k hk=>⟨⟨hk.1,fun e=>Nat.lt_irrefl _ (Nat.lt_of_lt_of_le hk.2 (hbase k e.symm))⟩,hk.2⟩)
theorem wI (h:N d e w base ok v xs):∃ A c,v = .slice A xs.length c:=by
  obtain ⟨_,rows,hl,hR,_⟩:=h
  obtain ⟨A,c,he⟩:=bn hR
  exact ⟨A,c,by rw [he,hl]⟩
theorem nP {n c:Nat} (h:N d e w base ok (.slice A n c) xs):n = xs.length ∧ n ≤ c ∧ d.C w A xs.length xs:=by
  obtain ⟨_,rows,hl,hR,hf⟩:=h
  obtain ⟨hn,hc,hC⟩:=aV hR
  refine ⟨by omega,hc,?_⟩
  rw [hl] at hC
  refine ⟨rfl,hC.2.1,fun hp=>?_⟩
  obtain ⟨ad,he,hcell⟩:=hC.2.2 hp
  refine ⟨ad,he,fun j p hj=>?_⟩
  have hjl:j < rows.length:=by have:=(List.getElem?_eq_some_iff.1 hj).1;omega
  obtain ⟨c',hcl,hK,hcc⟩:=hcell j _ (List.getElem?_eq_getElem hjl)
  have hk:=qZ (hf j p _ hj (List.getElem?_eq_getElem hjl))
  refine ⟨c',hcl,?_,hcc⟩
  rw [show c' = rows[j] from hK.1]
  exact hk
end
end Kd
end Go.Proofs.YtecpanfndodjgaaGreatDoorW.PrintWords
