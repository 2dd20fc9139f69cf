/- Part of the proof; words that it uses. -/
import Derived.Test.YtecpanfndodjgaaDoorWWords
import Derived.Test.YtecpanfndodjgaaDoorWMore
import Derived.Test.YtecpanfndodjgaaDoorWLast
import Derived.Lib.SlBytesConst
set_option linter.unusedVariables false
set_option linter.unusedSimpArgs false
namespace Go.Proofs.YtecpanfndodjgaaDoorW.PrintWords
open Go.RowKit Go.Proofs.YtecpanfndodjgaaDoorW.PrintLast
def bsL : Nat → Nat → List Bool
  | 0, _ => []
  | n + 1, x => (x % 2 == 1) :: bsL n (x / 2)
def bsA (n x : Nat) : Array Bool := (bsL n x).toArray
theorem conv_row (W : World) (base e : Nat) (s : ByteArray) (hbase : base ≤ W.heap.size) (hs : s.size ≤ 281474976710656) :
    (Lib.bytesWorld W e s).ownsRowT base e 1 (.slice (some ⟨W.heap.size, 0, none⟩) (bytesOf s).length (grownCap W s.size 0 e)) (bytesOf s).length (nums .u8 (bytesOf s)) := by
  have hge := grownCap_ge W s.size 0 e
  have hle : grownCap W s.size 0 e ≤ maxLen := grownCap_le_maxLen W s.size 0 e (by simp only [maxLen]; omega)
  have hsz : (Lib.bytesCells W e s).size = grownCap W s.size 0 e := by
    have h1 : s.data.size = s.size := rfl
    simp only [Lib.bytesCells, Array.size_append, Array.size_map, Array.size_replicate, h1]
    omega
  refine ⟨by rw [nums_length, Nat.mul_one], .inr ⟨W.heap.size, _, Lib.bytesCells W e s, rfl, hbase, ⟨_, Lib.bytesWorld_at_new W e s, .inr (Nat.le_refl _)⟩, by rw [bytesOf_length]; exact hge, hle, by rw [hsz, Nat.mul_one], ?_⟩⟩
  have h2 : (s.data.map fun b => Value.int IntKind.u8 b.toNat).toList = nums .u8 (bytesOf s) := by simp [nums, bytesOf]
  have h3 : (nums .u8 (bytesOf s)).length = (bytesOf s).length * 1 := by rw [nums_length, Nat.mul_one]
  rw [Lib.bytesCells, Array.toList_append, h2, ← h3]
  exact List.take_left
theorem conv_grown (W : World) (e : TypeId) (s : ByteArray) : W.grownBy (Lib.bytesWorld W e s) none :=
  ⟨rfl, rfl, rfl, by rw [Lib.bytesWorld_size]; omega, fun k hk _ => Lib.bytesWorld_at_old W e s k hk⟩
namespace Kd
theorem conv_R (W : World) (base e : Nat) (s : ByteArray) {ok : Nat → Prop} (hfresh : ok W.heap.size) (hbase : base ≤ W.heap.size) (hs : s.size ≤ 281474976710656) :
    (Kd.int .u8).R e (Lib.bytesWorld W e s) base ok (.slice (some ⟨W.heap.size, 0, none⟩) s.size (grownCap W s.size 0 e)) (bytesOf s) := by
  have h := conv_row W base e s hbase hs
  rw [show (Value.slice (some ⟨W.heap.size, 0, none⟩) s.size (grownCap W s.size 0 e)) = .slice (some ⟨W.heap.size, 0, none⟩) (bytesOf s).length (grownCap W s.size 0 e) by rw [bytesOf_length]]
  refine R_of_own (enc := Value.int .u8) (h1 := fun _ => rfl) h (fun k hk => ?_)
  have : W.heap.size = k := by simpa [Value.ownBlock] using hk
  subst this
  exact hfresh
section
variable {P : Program} {ops : Array Oper} {rest : List Oper} {o : Oper} {a : Act} {Q : Exit → Act → World → Prop} {Kc : Act → World → Prop}
theorem R_conv {w0 W : World} (base e : Nat) (hgd : o.guard = none) {N : Tmp} (_hd : o.dst = some N) (src dst : TypeId) (x : Operand) (ho : o.op = .convert src dst x) (s : ByteArray) (hx : a.eval x = .string s)
    {u : TypeDesc} (hsrc : P.underlying src = some u) (hdst : P.underlying dst = some (.slice e)) (he : P.underlying e = some (.int .u8)) {ok : Nat → Prop} (hfresh : ok W.heap.size) (hl : s.size ≤ 281474976710656) (HB : Below base w0 W) (hbase : base ≤ W.heap.size)
    (h : ∀ v1 w1, (Kd.int .u8).R e w1 base ok v1 (bytesOf s) → Below base w0 w1 → W.grownBy w1 none → (∃ b, v1.ownBlock = some b ∧ W.heap.size ≤ b) → wpList P ops Q rest (a.put o.dst v1) w1) : wpList P ops Q (o :: rest) a W := by
  refine event_run hgd (w1 := Lib.bytesWorld W e s) (v := .slice (some ⟨W.heap.size, 0, none⟩) s.size (grownCap W s.size 0 e)) ?_ (h _ _ (conv_R W base e s hfresh hbase hl) (bytes_below HB hbase e s) (conv_grown W e s) ⟨W.heap.size, by simp [Value.ownBlock], Nat.le_refl _⟩)
  simp [execOp, ho, hx, Lib.run_convert_string_bytes W src dst e s hsrc hdst he]
end
end Kd
end Go.Proofs.YtecpanfndodjgaaDoorW.PrintWords
