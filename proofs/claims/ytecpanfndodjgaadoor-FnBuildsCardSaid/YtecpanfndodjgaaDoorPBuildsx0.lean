/- Part of the proof; words that it uses. -/
import Derived.Test.YtecpanfndodjgaaDoorProg
import Derived.Below
import Derived.Deep.Draws
import Derived.Deep.AppendLies
import Derived.Maps.AppendAt
import Derived.OwnWalk
import Derived.Laws.BytesArg
import Derived.Laws.MakeOwn
import Derived.Laws.OwnMore
import Derived.Deep.OwnRows
import Derived.Tactics
import Derived.Lib.ConvBytes
import Derived.Laws.Slices
import Derived.WalkKit
import Derived.KernelRfl
import Derived.RowKit3
import Derived.Deep.LoopGhost
import Derived.Deep.QuietTactic
import Derived.BigQuiet
import Derived.WideLaws
import Derived.Deep.DeepCutAuto
import Derived.Deep.CutBlock
import Derived.Deep.RegionHeld3
import Derived.Laws.Rows
import Derived.Lib.AppendStr
import Derived.ArgAppend
import Derived.Laws.IdiomCopy
import Derived.OrdersHeld
import Derived.Laws.BitsLemmas
import Derived.RowKit
import Derived.WalkSpells
import Derived.Shelf.Strings.FieldsFuncAny
import Derived.Shelf.Strings.SlTrimAscii
import Derived.Shelf.Strings.Trim
import Derived.Shelf.Bytes.SlIndexAt
import Derived.Shelf.Strings.Search2
import Derived.Shelf.GgClosure.Gives
import Derived.Shelf.Bytes.SlIndexWhole
import Derived.Shelf.Bytes.SlIndexSmall
import Derived.Lib.IndexLaws
import Derived.Test.YtecpanfndodjgaaDoorWWords
import Derived.Test.YtecpanfndodjgaaDoorWLast
import Derived.Test.YtecpanfndodjgaaDoorWTab
import Derived.Test.YtecpanfndodjgaaDoorWFour
import Derived.Test.YtecpanfndodjgaaDoorWQPut
import Derived.Test.YtecpanfndodjgaaDoorWApart
import Derived.Test.YtecpanfndodjgaaDoorWArr
import Derived.Test.YtecpanfndodjgaaDoorWZeros
import Derived.Test.YtecpanfndodjgaaDoorWFoot
import Derived.Test.YtecpanfndodjgaaDoorWKept
import Derived.Test.YtecpanfndodjgaaDoorWShare
import Derived.Test.YtecpanfndodjgaaDoorWN
import Derived.Test.YtecpanfndodjgaaDoorWFootNe
import Derived.Test.YtecpanfndodjgaaDoorWAt
import Derived.Test.YtecpanfndodjgaaDoorWEqStruct
import Derived.Test.YtecpanfndodjgaaDoorWRepsOne
import Derived.Test.YtecpanfndodjgaaDoorWInv
import Derived.Test.YtecpanfndodjgaaDoorWInvWords
import Derived.Test.YtecpanfndodjgaaDoorWGuard
import Derived.Test.YtecpanfndodjgaaDoorWNEv
import Derived.Test.YtecpanfndodjgaaDoorWMore
import Derived.Test.YtecpanfndodjgaaDoorWConv
import Derived.Test.YtecpanfndodjgaaDoorWAbbr
namespace Go.Proofs.YtecpanfndodjgaaDoor.PBuilds
open Go.RowKit Go.Proofs.YtecpanfndodjgaaDoorW.PrintWords Go.Proofs.YtecpanfndodjgaaDoorW.PrintLast Go.Proofs.YtecpanfndodjgaaDoorW.PrintMore
attribute [local go_sem] max2_int max_two
set_option linter.unusedVariables false
set_option linter.unusedSimpArgs false
def errW : Option Int → Value
  | none => .nilIface
  | some c => .iface 0 (.int .i64 c)
theorem errW_none : errW none = .nilIface := rfl
theorem errW_some (c : Int) : errW (some c) = .iface 0 (.int .i64 c) := rfl
theorem info2 : (Tryd.prog.info? 2).map (fun i => (i.zero, i.size, i.bytes)) = some (some (.int .i64 0), 1, 8) := by kernel_rfl
theorem info5 : (Tryd.prog.info? 5).map (fun i => (i.zero, i.size, i.bytes)) = some (some (.int .u8 0), 1, 1) := by kernel_rfl
theorem info9 : (Tryd.prog.info? 9).map (fun i => (i.zero, i.size, i.bytes)) = some (some (.string ⟨#[]⟩), 1, 16) := by kernel_rfl
theorem info23 : (Tryd.prog.info? 23).map (fun i => (i.zero, i.size, i.bytes)) = some (some (.agg #[(.int .i64 0), (.int .i64 0), (.int .i64 0), (.int .i64 0), (.int .i64 0), (.int .i64 0), (.int .i64 0)]), 7, 56) := by kernel_rfl
theorem info27 : (Tryd.prog.info? 27).map (fun i => (i.zero, i.size, i.bytes)) = some (some (.slice none 0 0), 1, 24) := by kernel_rfl
theorem info134 : (Tryd.prog.info? 134).map (fun i => (i.zero, i.size, i.bytes)) = some (some (.agg #[(.int .i64 0), (.int .i64 0)]), 2, 16) := by kernel_rfl
theorem info151 : (Tryd.prog.info? 151).map (fun i => (i.zero, i.size, i.bytes)) = some (some (.agg #[(.string ⟨#[]⟩), (.string ⟨#[]⟩)]), 2, 32) := by kernel_rfl
structure S23 where
  f0 : Int
  f1 : Int
  f2 : Int
  f3 : Int
  f4 : Int
  f5 : Int
  f6 : Int
def z23 : S23 := ⟨(0 : Int), (0 : Int), (0 : Int), (0 : Int), (0 : Int), (0 : Int), (0 : Int)⟩
def k23 : Kd S23 := Kd.iso (Kd.pair (Kd.int .i64) (Kd.pair (Kd.int .i64) (Kd.pair (Kd.int .i64) (Kd.pair (Kd.int .i64) (Kd.pair (Kd.int .i64) (Kd.pair (Kd.int .i64) (Kd.int .i64))))))) (fun x : S23 => (x.f0, x.f1, x.f2, x.f3, x.f4, x.f5, x.f6))
theorem k23_open {w : World} {x : S23} {cs : List Value} (h : k23.K w x cs) : cs = [.int .i64 x.f0, .int .i64 x.f1, .int .i64 x.f2, .int .i64 x.f3, .int .i64 x.f4, .int .i64 x.f5, .int .i64 x.f6] := by
  obtain ⟨_, _, rfl, rfl, ⟨_, _, rfl, rfl, ⟨_, _, rfl, rfl, ⟨_, _, rfl, rfl, ⟨_, _, rfl, rfl, ⟨_, _, rfl, rfl, rfl⟩⟩⟩⟩⟩⟩ := h
  exact rfl
theorem k23_mkM (w : World) (base : Nat) (ok : Nat → Prop) (x : S23)  : k23.M w base ok x [.int .i64 x.f0, .int .i64 x.f1, .int .i64 x.f2, .int .i64 x.f3, .int .i64 x.f4, .int .i64 x.f5, .int .i64 x.f6] := ⟨[.int .i64 x.f0], [.int .i64 x.f1, .int .i64 x.f2, .int .i64 x.f3, .int .i64 x.f4, .int .i64 x.f5, .int .i64 x.f6], rfl, rfl, ⟨[.int .i64 x.f1], [.int .i64 x.f2, .int .i64 x.f3, .int .i64 x.f4, .int .i64 x.f5, .int .i64 x.f6], rfl, rfl, ⟨[.int .i64 x.f2], [.int .i64 x.f3, .int .i64 x.f4, .int .i64 x.f5, .int .i64 x.f6], rfl, rfl, ⟨[.int .i64 x.f3], [.int .i64 x.f4, .int .i64 x.f5, .int .i64 x.f6], rfl, rfl, ⟨[.int .i64 x.f4], [.int .i64 x.f5, .int .i64 x.f6], rfl, rfl, ⟨[.int .i64 x.f5], [.int .i64 x.f6], rfl, rfl, rfl⟩⟩⟩⟩⟩⟩
def rd_T23 (xs : List S23) (i : Int) : S23 := xs.getD i.toNat z23
theorem at_T23 {w : World} {A : Option Addr} {n : Nat} {xs : List S23} (h : Kd.C k23 w A n xs) (i : Int) (h0 : 0 ≤ i) (h1 : i < n) : ∃ ad , A = some ad ∧ w.cell? (ad.add (i.toNat * 7)) = some (.int .i64 (rd_T23 xs i).f0) ∧ w.cell? ⟨(ad.add (i.toNat * 7)).block, (ad.add (i.toNat * 7)).off + 1, none⟩ = some (.int .i64 (rd_T23 xs i).f1) ∧ w.cell? ⟨(ad.add (i.toNat * 7)).block, (ad.add (i.toNat * 7)).off + 2, none⟩ = some (.int .i64 (rd_T23 xs i).f2) ∧ w.cell? ⟨(ad.add (i.toNat * 7)).block, (ad.add (i.toNat * 7)).off + 3, none⟩ = some (.int .i64 (rd_T23 xs i).f3) ∧ w.cell? ⟨(ad.add (i.toNat * 7)).block, (ad.add (i.toNat * 7)).off + 4, none⟩ = some (.int .i64 (rd_T23 xs i).f4) ∧ w.cell? ⟨(ad.add (i.toNat * 7)).block, (ad.add (i.toNat * 7)).off + 5, none⟩ = some (.int .i64 (rd_T23 xs i).f5) ∧ w.cell? ⟨(ad.add (i.toNat * 7)).block, (ad.add (i.toNat * 7)).off + 6, none⟩ = some (.int .i64 (rd_T23 xs i).f6) := by
  obtain ⟨ad, c, e, _, hK, hc0⟩ := Kd.C_get h z23 i h0 h1
  have hc : ∀ j u, c[j]? = some u → w.cell? (ad.add (i.toNat * 7 + j)) = some u := hc0
  obtain rfl := k23_open hK
  exact ⟨ad, e, hc 0 _ rfl, by rw [← add_field _ _ 1 (by omega)]; exact hc 1 _ rfl, by rw [← add_field _ _ 2 (by omega)]; exact hc 2 _ rfl, by rw [← add_field _ _ 3 (by omega)]; exact hc 3 _ rfl, by rw [← add_field _ _ 4 (by omega)]; exact hc 4 _ rfl, by rw [← add_field _ _ 5 (by omega)]; exact hc 5 _ rfl, by rw [← add_field _ _ 6 (by omega)]; exact hc 6 _ rfl⟩
def rd_L5 (xs : List (List Int)) (i : Int) : (List Int) := xs.getD i.toNat ([] : List Int)
theorem at_L5 {w : World} {A : Option Addr} {n : Nat} {xs : List (List Int)} (h : Kd.C (Kd.slice 5 (Kd.int .u8)) w A n xs) (i : Int) (h0 : 0 ≤ i) (h1 : i < n) : ∃ ad A0 c0, A = some ad ∧ w.cell? (ad.add i.toNat) = some (.slice A0 (rd_L5 xs i).length c0) ∧ (rd_L5 xs i).length ≤ c0 ∧ (Kd.int .u8).C w A0 (rd_L5 xs i).length (rd_L5 xs i) := by
  obtain ⟨ad, c, e, _, hK, hc0⟩ := Kd.C_get h ([] : List Int) i h0 h1
  have hc : ∀ j u, c[j]? = some u → w.cell? (ad.add (i.toNat * 1 + j)) = some u := hc0
  obtain ⟨A0, c0, rfl, l0, g0⟩ := hK
  exact ⟨ad, A0, c0, e, by have hq := hc 0 _ rfl; rwa [Nat.mul_one, Nat.add_zero] at hq, l0, g0⟩
structure S151 where
  f0 : ByteArray
  f1 : ByteArray
def z151 : S151 := ⟨(⟨#[]⟩ : ByteArray), (⟨#[]⟩ : ByteArray)⟩
def k151 : Kd S151 := Kd.iso (Kd.pair Kd.string Kd.string) (fun x : S151 => (x.f0, x.f1))
theorem k151_open {w : World} {x : S151} {cs : List Value} (h : k151.K w x cs) : cs = [.string x.f0, .string x.f1] := by
  obtain ⟨_, _, rfl, rfl, rfl⟩ := h
  exact rfl
theorem k151_openM {w : World} {base : Nat} {ok : Nat → Prop} {x : S151} {cs : List Value} (h : k151.M w base ok x cs) : cs = [.string x.f0, .string x.f1] := by
  obtain ⟨_, _, rfl, rfl, rfl⟩ := h
  exact rfl
theorem k151_mkM (w : World) (base : Nat) (ok : Nat → Prop) (x : S151)  : k151.M w base ok x [.string x.f0, .string x.f1] := ⟨[.string x.f0], [.string x.f1], rfl, rfl, rfl⟩
def rd_T151 (xs : List S151) (i : Int) : S151 := xs.getD i.toNat z151
theorem at_T151 {w : World} {A : Option Addr} {n : Nat} {xs : List S151} (h : Kd.C k151 w A n xs) (i : Int) (h0 : 0 ≤ i) (h1 : i < n) : ∃ ad , A = some ad ∧ w.cell? (ad.add (i.toNat * 2)) = some (.string (rd_T151 xs i).f0) ∧ w.cell? ⟨(ad.add (i.toNat * 2)).block, (ad.add (i.toNat * 2)).off + 1, none⟩ = some (.string (rd_T151 xs i).f1) := by
  obtain ⟨ad, c, e, _, hK, hc0⟩ := Kd.C_get h z151 i h0 h1
  have hc : ∀ j u, c[j]? = some u → w.cell? (ad.add (i.toNat * 2 + j)) = some u := hc0
  obtain rfl := k151_open hK
  exact ⟨ad, e, hc 0 _ rfl, by rw [← add_field _ _ 1 (by omega)]; exact hc 1 _ rfl⟩
structure S134 where
  f0 : Int
  f1 : Int
def z134 : S134 := ⟨(0 : Int), (0 : Int)⟩
def k134 : Kd S134 := Kd.iso (Kd.pair (Kd.int .i64) (Kd.int .i64)) (fun x : S134 => (x.f0, x.f1))
theorem k134_open {w : World} {x : S134} {cs : List Value} (h : k134.K w x cs) : cs = [.int .i64 x.f0, .int .i64 x.f1] := by
  obtain ⟨_, _, rfl, rfl, rfl⟩ := h
  exact rfl
theorem k134_mkM (w : World) (base : Nat) (ok : Nat → Prop) (x : S134)  : k134.M w base ok x [.int .i64 x.f0, .int .i64 x.f1] := ⟨[.int .i64 x.f0], [.int .i64 x.f1], rfl, rfl, rfl⟩
def rd_T134 (xs : List S134) (i : Int) : S134 := xs.getD i.toNat z134
theorem at_T134 {w : World} {A : Option Addr} {n : Nat} {xs : List S134} (h : Kd.C k134 w A n xs) (i : Int) (h0 : 0 ≤ i) (h1 : i < n) : ∃ ad , A = some ad ∧ w.cell? (ad.add (i.toNat * 2)) = some (.int .i64 (rd_T134 xs i).f0) ∧ w.cell? ⟨(ad.add (i.toNat * 2)).block, (ad.add (i.toNat * 2)).off + 1, none⟩ = some (.int .i64 (rd_T134 xs i).f1) := by
  obtain ⟨ad, c, e, _, hK, hc0⟩ := Kd.C_get h z134 i h0 h1
  have hc : ∀ j u, c[j]? = some u → w.cell? (ad.add (i.toNat * 2 + j)) = some u := hc0
  obtain rfl := k134_open hK
  exact ⟨ad, e, hc 0 _ rfl, by rw [← add_field _ _ 1 (by omega)]; exact hc 1 _ rfl⟩
@[go_sem] theorem fld29_0 (x0 x1 : Value) (w : World) : (Instr.field 29 (.agg #[x0, x1]) 0).run Tryd.prog w = .ok x0 w := by kernel_rfl
@[go_sem] theorem fld29_1 (x0 x1 : Value) (w : World) : (Instr.field 29 (.agg #[x0, x1]) 1).run Tryd.prog w = .ok x1 w := by kernel_rfl
@[go_sem] theorem fld39_1 (x0 x1 : Value) (w : World) : (Instr.field 39 (.agg #[x0, x1]) 1).run Tryd.prog w = .ok x1 w := by kernel_rfl
theorem zz0 {p a : Prop} (x0_ : a) (h : a → p := by intro x0_; first | (rw [x0_]; with_reducible exact H) | (have H2_ := (Option.bind_some _ _).symm.trans H; rw [x0_]; with_reducible exact H2_) | (have H2_ := (Option.bind_some _ _).symm.trans H; with_reducible exact H2_) | with_reducible exact H | (rw [x0_]; exact H) | exact H) : p := h x0_
theorem zz1 {p a : Prop} (x0_ : a) (h : a → p := by intro x0_; repeat (first | (with_reducible first | exact HB.out | apply below_alloc | apply pw_below_drewN | apply below_drew1 | refine below_set ?_ (IsS102.ge x0_)) | exact HB.out)) : p := h x0_
theorem zz2 {p a : Prop} (x0_ : a) (h : a → p := by intro x0_; repeat (first | (with_reducible first | exact x0_ | apply IsS102.alloc | apply IsS102.drewN | apply IsS102.drew | apply IsS102.set_1) | exact x0_)) : p := h x0_
theorem zz3 {p : Prop} (h : p := by repeat (first | (with_reducible first | exact HK.out | apply KeepBut.set_ | apply keep_drewN | apply keep_drew | apply keep_alloc) | exact HK.out)) : p := h
theorem zz4 {p a b : Prop} (x0_ : a) (x1_ : b) (h : a → b → p := by intro x0_ x1_; first | exact Kd.own_blk (Kd.R_ne x0_ x1_ (by decide)) | (rw [add_block]; exact Kd.own_blk (Kd.R_ne x0_ x1_ (by decide))) | (show (Addr.add _ _).block ≠ _; rw [add_block]; exact Kd.own_blk (Kd.R_ne x0_ x1_ (by decide))) | (dsimp only; exact Kd.own_blk (Kd.R_ne x0_ x1_ (by decide)))) : p := h x0_ x1_
theorem zz5 {p a : Prop} (x0_ : a) (h : a → p := by intro x0_; repeat (first | exact (Kd.R_reads' x0_).2.2 | (with_reducible refine Kd.C_alloc ?_ _) | (with_reducible refine Kd.C_drewN ?_ _) | (with_reducible refine Kd.C_drew ?_))) : p := h x0_
theorem zz6 {p a b : Prop} (x0_ : a) (x1_ : b) (h : a → b → p := by intro x0_ x1_; repeat (first | (with_reducible first | exact HK.out | apply Kept.alloc | apply Kept.drewN | apply Kept.drew | refine Kept.setCell ?_ (.inl x0_) _ | refine Kept.setCell ?_ (.inr x1_) _) | exact HK.out)) : p := h x0_ x1_
theorem zz7 {p a b : Prop} (x0_ : a) (x1_ : b) (h : a → b → p := by intro x0_ x1_; (with_reducible repeat (first | refine blk_drewN ?_ _ | refine blk_drew ?_ | refine blk_alloc ?_ _)); refine blk_far ?_ x0_ _; (with_reducible repeat (first | refine blk_drewN ?_ _ | refine blk_drew ?_ | refine blk_alloc ?_ _)); refine blk_far ?_ x0_ _; (with_reducible repeat (first | refine blk_drewN ?_ _ | refine blk_drew ?_ | refine blk_alloc ?_ _)); exact x1_) : p := h x0_ x1_
theorem zz8 {p a b : Prop} (x0_ : a) (x1_ : b) (h : a → b → p := by intro x0_ x1_; rw [hw]; exact (by (with_reducible repeat (first | refine blk_drewN ?_ _ | refine blk_drew ?_ | refine blk_alloc ?_ _)); refine blk_far ?_ x0_ _; (with_reducible repeat (first | refine blk_drewN ?_ _ | refine blk_drew ?_ | refine blk_alloc ?_ _)); refine blk_far ?_ x0_ _; (with_reducible repeat (first | refine blk_drewN ?_ _ | refine blk_drew ?_ | refine blk_alloc ?_ _)); refine blk_far ?_ x0_ _; (with_reducible repeat (first | refine blk_drewN ?_ _ | refine blk_drew ?_ | refine blk_alloc ?_ _)); refine blk_far ?_ x0_ _; (with_reducible repeat (first | refine blk_drewN ?_ _ | refine blk_drew ?_ | refine blk_alloc ?_ _)); refine blk_far ?_ x0_ _; (with_reducible repeat (first | refine blk_drewN ?_ _ | refine blk_drew ?_ | refine blk_alloc ?_ _)); refine blk_far ?_ x0_ _; (with_reducible repeat (first | refine blk_drewN ?_ _ | refine blk_drew ?_ | refine blk_alloc ?_ _)); refine blk_far ?_ x0_ _; (with_reducible repeat (first | refine blk_drewN ?_ _ | refine blk_drew ?_ | refine blk_alloc ?_ _)); exact x1_)) : p := h x0_ x1_
theorem zz10 {p : Prop} (h : p := by repeat (first | exact Drawn0.refl _ | apply Drawn0.step)) : p := h
theorem zz11 {p a : Prop} (x0_ : a) (h : a → p := by intro x0_; repeat (first | exact (Kd.C_below x0_ HB.out) | (with_reducible refine Kd.C_alloc ?_ _) | (with_reducible refine Kd.C_drewN ?_ _) | (with_reducible refine Kd.C_drew ?_))) : p := h x0_
theorem zz12 {p a : Prop} (x0_ : a) (h : a → p := by intro x0_; (with_reducible repeat (first | apply Kd.S_alloc | apply Kd.S_drewN | apply Kd.S_drew)); exact x0_) : p := h x0_
theorem zz13 {p : Prop} (h : p := by first | (go_simp; done) | (go_simp; rfl)) : p := h
theorem zz14 {p a b : Prop} (x0_ : a) (x1_ : b) (h : a → b → p := by intro x0_ x1_; (with_reducible repeat (first | apply Kd.R_alloc | apply Kd.R_drewN | apply Kd.R_drew)); exact (Kd.R_mono (Kd.R_far (p := ⟨gb604, 1, none⟩) (Kd.R_far (p := ⟨gb604, 0, none⟩) (Kd.R_types x0_ x1_ (by decide)) (fun _ hk => hk.2) (.int .i64 t600)) (fun _ hk => hk.2) (.slice Ao53 t601.length co53)) (fun _ h_ => h_.1))) : p := h x0_ x1_
theorem zz15 {p a b c : Prop} (x0_ : a) (x1_ : b) (x2_ : c) (h : a → b → c → p := by intro x0_ x1_ x2_; repeat (first | (with_reducible first | exact HB.out | apply below_alloc | apply pw_below_drewN | apply below_drew1 | refine below_set ?_ x0_ | refine below_set ?_ x1_ | refine below_set ?_ x2_) | exact HB.out)) : p := h x0_ x1_ x2_
theorem zz16 {p : Prop} (h : p := by first | exact Kd.R_nil _ _ _ _ _ | exact Kd.N_nil _ _ _ _ _ | exact Kd.V_nil _ _ _ _ _ | exact Kd.Q_nil _ _ _ _ _ | exact Kd.S_nil _ _ _ _ _) : p := h
theorem zz17 {p a : Prop} (x0_ : a) (h : a → p := by intro x0_; (with_reducible repeat (first | apply Kd.R_alloc | apply Kd.R_drewN | apply Kd.R_drew)); exact Kd.R_mono x0_ (fun _ hk => trivial)) : p := h x0_
theorem zz18 {p a b : Prop} (x0_ : a) (x1_ : b) (h : a → b → p := by intro x0_ x1_; (with_reducible repeat (first | refine blk_drewN ?_ _ | refine blk_drew ?_ | refine blk_alloc ?_ _)); refine blk_far ?_ x0_ _; (with_reducible repeat (first | refine blk_drewN ?_ _ | refine blk_drew ?_ | refine blk_alloc ?_ _)); exact x1_) : p := h x0_ x1_
theorem zz19 {p a : Prop} (x0_ : a) (h : a → p := by intro x0_; (with_reducible repeat (first | apply Kd.R_alloc | apply Kd.R_drewN | apply Kd.R_drew)); exact Kd.R_mono x0_ (fun _ hk => hk.2)) : p := h x0_
theorem zz20 {p a : Prop} (x0_ : a) (h : a → p := by intro x0_; (with_reducible repeat (first | apply Kd.R_alloc | apply Kd.R_drewN | apply Kd.R_drew)); exact Kd.R_mono x0_ (fun _ hk => ⟨hk.1.2, hk.2⟩)) : p := h x0_
theorem zz21 {p : Prop} (h : p := by rw [if_neg (show ¬ (false = true) by decide)] at H; exact H) : p := h
theorem zz22 {p a : Prop} (x0_ : a) (h : a → p := by intro x0_; (with_reducible repeat (first | refine blk_drewN ?_ _ | refine blk_drew ?_ | refine blk_alloc ?_ _)); refine blk_put (cs := #[.string ((rd_T151 l0 x10_1).f0), .string (⟨#[]⟩ : ByteArray)]) ?_ 1 _ rfl; (with_reducible repeat (first | refine blk_drewN ?_ _ | refine blk_drew ?_ | refine blk_alloc ?_ _)); refine blk_put (cs := #[.string (⟨#[]⟩ : ByteArray), .string (⟨#[]⟩ : ByteArray)]) ?_ 0 _ rfl; (with_reducible repeat (first | refine blk_drewN ?_ _ | refine blk_drew ?_ | refine blk_alloc ?_ _)); exact x0_) : p := h x0_
theorem zz23 {p a : Prop} (x0_ : a) (h : a → p := by intro x0_; repeat (first | exact x0_ | (with_reducible refine Kd.C_alloc ?_ _) | (with_reducible refine Kd.C_drewN ?_ _) | (with_reducible refine Kd.C_drew ?_))) : p := h x0_
theorem zz24 {p : Prop} (h : p := by repeat (first | (with_reducible first | exact HB.out | apply below_alloc | apply pw_below_drewN | apply below_drew1) | exact HB.out)) : p := h
theorem zz25 {p a : Prop} (x0_ : a) (h : a → p := by intro x0_; (with_reducible repeat (first | apply Kd.R_alloc | apply Kd.R_drewN | apply Kd.R_drew)); exact Kd.R_mono x0_ (fun _ hk => ⟨hk.2, hk.1.2⟩)) : p := h x0_
theorem zz26 {p a b : Prop} (x0_ : a) (x1_ : b) (h : a → b → p := by intro x0_ x1_; rw [hw]; exact (by (with_reducible repeat (first | refine blk_drewN ?_ _ | refine blk_drew ?_ | refine blk_alloc ?_ _)); refine blk_far ?_ x0_ _; (with_reducible repeat (first | refine blk_drewN ?_ _ | refine blk_drew ?_ | refine blk_alloc ?_ _)); refine blk_far ?_ x0_ _; (with_reducible repeat (first | refine blk_drewN ?_ _ | refine blk_drew ?_ | refine blk_alloc ?_ _)); exact x1_)) : p := h x0_ x1_
theorem zz27 {p : Prop} (h : p := by exact (keep_size (w := w) (g := g) (row := none) (by repeat (first | (with_reducible first | exact HK.out | apply KeepBut.set_ | apply keep_drewN | apply keep_drew | apply keep_alloc) | exact HK.out)))) : p := h
theorem zz28 {p a : Prop} (x0_ : a) (h : a → p := by intro x0_; repeat (first | (with_reducible exact x0_) | (with_reducible refine Kd.C_alloc ?_ _) | (with_reducible refine Kd.C_drewN ?_ _) | (with_reducible refine Kd.C_drew ?_) | exact x0_)) : p := h x0_
theorem zz29 {p : Prop} (h : p := by rw [hg]; exact (below_size bB)) : p := h
theorem zz30 {p a : Prop} (x0_ : a) (h : a → p := by intro x0_; exact (by (with_reducible repeat (first | apply Kd.R_alloc | apply Kd.R_drewN | apply Kd.R_drew)); exact Kd.R_mono x0_ (fun _ hk => hk.2))) : p := h x0_
theorem zz31 {p a : Prop} (x0_ : a) (h : a → p := by intro x0_; (with_reducible repeat (first | refine blk_drewN ?_ _ | refine blk_drew ?_ | refine blk_alloc ?_ _)); refine blk_put (cs := #[.int .i64 2, .slice none 0 0]) ?_ 1 _ rfl; (with_reducible repeat (first | refine blk_drewN ?_ _ | refine blk_drew ?_ | refine blk_alloc ?_ _)); refine blk_put (cs := #[.int .i64 0, .slice none 0 0]) ?_ 0 _ rfl; (with_reducible repeat (first | refine blk_drewN ?_ _ | refine blk_drew ?_ | refine blk_alloc ?_ _)); exact x0_) : p := h x0_
theorem zz32 {p a : Prop} (x0_ : a) (h : a → p := by intro x0_; (with_reducible repeat (first | refine blk_drewN ?_ _ | refine blk_drew ?_ | refine blk_alloc ?_ _)); refine blk_put (cs := #[.int .i64 0]) ?_ 0 _ rfl; (with_reducible repeat (first | refine blk_drewN ?_ _ | refine blk_drew ?_ | refine blk_alloc ?_ _)); exact x0_) : p := h x0_
theorem zz33 {p a b c : Prop} (x0_ : a) (x1_ : b) (x2_ : c) (h : a → b → c → p := by intro x0_ x1_ x2_; repeat (first | (with_reducible first | exact HK.out | apply Kept.alloc | apply Kept.drewN | apply Kept.drew | refine Kept.setCell ?_ (.inl x0_) _ | refine Kept.setCell ?_ (.inr x1_) _ | refine Kept.setCell ?_ (.inr x2_) _) | exact HK.out)) : p := h x0_ x1_ x2_
theorem zz34 {p a b c d : Prop} (x0_ : a) (x1_ : b) (x2_ : c) (x3_ : d) (h : a → b → c → d → p := by intro x0_ x1_ x2_ x3_; repeat (first | (with_reducible first | exact HB.out | apply below_alloc | apply pw_below_drewN | apply below_drew1 | refine below_set ?_ x0_ | refine below_set ?_ x1_ | refine below_set ?_ x2_ | refine below_set ?_ x3_) | exact HB.out)) : p := h x0_ x1_ x2_ x3_
theorem zz35 {p a b : Prop} (x0_ : a) (x1_ : b) (h : a → b → p := by intro x0_ x1_; rw [hw]; exact (by repeat (first | (with_reducible first | exact HK.out | apply Kept.alloc | apply Kept.drewN | apply Kept.drew | refine Kept.setCell ?_ (.inl x0_) _ | refine Kept.setCell ?_ (.inr x1_) _) | exact HK.out))) : p := h x0_ x1_
theorem zz36 {p : Prop} (h : p := by rw [if_pos rfl] at H; exact H) : p := h
theorem zz37 {p a : Prop} (x0_ : a) (h : a → p := by intro x0_; exact (by (with_reducible repeat (first | apply Kd.R_alloc | apply Kd.R_drewN | apply Kd.R_drew)); exact Kd.R_mono x0_ (fun _ hk => ⟨hk.1.2, hk.2⟩))) : p := h x0_
theorem zz38 {p a : Prop} (x0_ : a) (h : a → p := by intro x0_; repeat (first | exact (by repeat (first | (with_reducible exact x0_) | (with_reducible refine Kd.C_alloc ?_ _) | (with_reducible refine Kd.C_drewN ?_ _) | (with_reducible refine Kd.C_drew ?_) | exact x0_)) | (with_reducible refine Kd.C_alloc ?_ _) | (with_reducible refine Kd.C_drewN ?_ _) | (with_reducible refine Kd.C_drew ?_))) : p := h x0_
theorem zz39 {p a b c d e : Prop} (x0_ : a) (x1_ : b) (x2_ : c) (x3_ : d) (x4_ : e) (h : a → b → c → d → e → p := by intro x0_ x1_ x2_ x3_ x4_; repeat (first | (with_reducible first | exact HB.out | apply below_alloc | apply pw_below_drewN | apply below_drew1 | refine below_set ?_ x0_ | refine below_set ?_ x1_ | refine below_set ?_ x2_ | refine below_set ?_ x3_ | refine below_set ?_ x4_) | exact HB.out)) : p := h x0_ x1_ x2_ x3_ x4_
theorem zz40 {p a b : Prop} (x0_ : a) (x1_ : b) (h : a → b → p := by intro x0_ x1_; rw [hw]; exact (by (with_reducible repeat (first | apply Kd.R_alloc | apply Kd.R_drewN | apply Kd.R_drew)); exact Kd.R_mono (Kd.R_far (p := ⟨gb598, 1, none⟩) (Kd.R_far (p := ⟨gb598, 0, none⟩) (Kd.R_types x0_ x1_ (by decide)) (fun _ hk => hk.2) (.int .i64 t596)) (fun _ hk => hk.2) (.int .i64 t597)) (fun _ hk => trivial))) : p := h x0_ x1_
theorem zz41 {p a b : Prop} (x0_ : a) (x1_ : b) (h : a → b → p := by intro x0_ x1_; (with_reducible repeat (first | apply Kd.R_alloc | apply Kd.R_drewN | apply Kd.R_drew)); exact Kd.R_mono (Kd.R_far (p := ⟨gb609, 1, none⟩) (Kd.R_far (p := ⟨gb609, 0, none⟩) (Kd.R_types x0_ x1_ (by decide)) (fun _ hk => hk.2) (.int .i64 t605)) (fun _ hk => hk.2) (.slice Ao63 t606.length co63)) (fun _ hk => hk.1.2)) : p := h x0_ x1_
theorem zz42 {p a b : Prop} (x0_ : a) (x1_ : b) (h : a → b → p := by intro x0_ x1_; (with_reducible repeat (first | apply Kd.R_alloc | apply Kd.R_drewN | apply Kd.R_drew)); exact (Kd.R_mono (Kd.R_far (p := ⟨gb259, 0, none⟩) (Kd.R_types x0_ x1_ (by decide)) (fun _ hk => hk.2) (.int .i64 (rd l1 x17_1))) (fun _ h_ => h_.1))) : p := h x0_ x1_
theorem zz44 {p a b : Prop} (x0_ : a) (x1_ : b) (h : a → b → p := by intro x0_ x1_; first | exact HK.out.1 | exact (show Kept w _ (fun k_ => P6_ k_) from by repeat (first | (with_reducible first | exact HK.out | apply Kept.alloc | apply Kept.drewN | apply Kept.drew | refine Kept.setCell ?_ (.inl x0_) _ | refine Kept.setCell ?_ (.inr x1_) _) | exact HK.out)).1) : p := h x0_ x1_
theorem zz45 {p : Prop} (h : p := by have h_ := of_decide_eq_true (show decide ((wrap64 (x6_1 + x7_7)) ≤ (l0.length : Int)) = true by assumption); rw [List.length_drop, List.length_take]; omega) : p := h
theorem zz46 {p a : Prop} (x0_ : a) (h : a → p := by intro x0_; repeat (first | (with_reducible first | exact HK.out | apply Kept.alloc | apply Kept.drewN | apply Kept.drew | refine Kept.setCell ?_ (.inl x0_) _) | exact HK.out)) : p := h x0_
theorem zz47 {p a : Prop} (x0_ : a) (h : a → p := by intro x0_; (with_reducible repeat (first | apply Kd.R_alloc | apply Kd.R_drewN | apply Kd.R_drew)); exact Kd.R_mono x0_ (fun _ hk => ⟨hk.2, hk.1⟩)) : p := h x0_
theorem zz48 {p a b : Prop} (x0_ : a) (x1_ : b) (h : a → b → p := by intro x0_ x1_; have := x0_; have := x1_; first | omega | exact Nat.le_refl _) : p := h x0_ x1_
theorem zz49 {p a : Prop} (x0_ : a) (h : a → p := by intro x0_; (with_reducible repeat (first | apply Kd.R_alloc | apply Kd.R_drewN | apply Kd.R_drew)); exact Kd.R_mono x0_ (fun _ hk => hk.1)) : p := h x0_
theorem zz50 {p a : Prop} (x0_ : a) (h : a → p := by intro x0_; rw [← hq_]; exact (by (with_reducible repeat (first | apply Kd.R_alloc | apply Kd.R_drewN | apply Kd.R_drew)); exact Kd.R_mono x0_ (fun _ hk => hk.2))) : p := h x0_
theorem zz51 {p a : Prop} (x0_ : a) (h : a → p := by intro x0_; have := x0_; first | omega | exact Nat.le_refl _) : p := h x0_
theorem zz52 {p a : Prop} (x0_ : a) (h : a → p := by intro x0_; (with_reducible repeat (first | apply Kd.R_alloc | apply Kd.R_drewN | apply Kd.R_drew)); exact Kd.R_mono x0_ (fun _ hk => ⟨trivial, hk⟩)) : p := h x0_
theorem zz53 {p : Prop} (h : p := by rw [hg]; exact Nat.ne_of_gt (blk_lt (g := gb580) (o := .cells #[.int .i64 t576, .slice Ao13 t577.length co13] 29 (0, 0)) (bL BK580))) : p := h
theorem zz54 {p : Prop} (h : p := by rw [hg]; exact Nat.ne_of_lt (blk_lt (g := gb580) (o := .cells #[.int .i64 t576, .slice Ao13 t577.length co13] 29 (0, 0)) (bL BK580))) : p := h
theorem zz55 {p : Prop} (h : p := by have : (0 : Int) < ((strOfNums ((l0.take ((wrap64 (x6_1 + x7_7)) : Int).toNat).drop (x6_1 : Int).toNat)).size : Int) := pI; omega) : p := h
theorem zz56 {p a : Prop} (x0_ : a) (h : a → p := by intro x0_; repeat (first | exact (Kd.S_reads' x0_).2.2 | (with_reducible refine Kd.C_alloc ?_ _) | (with_reducible refine Kd.C_drewN ?_ _) | (with_reducible refine Kd.C_drew ?_))) : p := h x0_
theorem zz57 {p : Prop} (h : p := by rw [hg]; exact Nat.ne_of_lt (blk_lt (g := gb589) (o := .cells #[.int .i64 t585, .slice Ao18 t586.length co18] 52 (0, 0)) (bL BK589))) : p := h
theorem zz58 {p : Prop} (h : p := by rw [hg]; exact Nat.ne_of_gt (blk_lt (g := gb589) (o := .cells #[.int .i64 t585, .slice Ao18 t586.length co18] 52 (0, 0)) (bL BK589))) : p := h
theorem zz59 {p : Prop} (h : p := by simp only [putAll, Act.put, List.setIfInBounds_toArray, List.set_cons_zero, List.set_cons_succ]) : p := h
theorem zz60 {p a : Prop} (x0_ : a) (h : a → p := by intro x0_; (try simp only [hl3_1]); (with_reducible repeat (first | apply Kd.R_alloc | apply Kd.R_drewN | apply Kd.R_drew)); exact x0_) : p := h x0_
theorem zz61 {p : Prop} (h : p := by rw [← hq_]; exact (bR HO_3)) : p := h
theorem zz62 {p : Prop} (h : p := by first | omega | exact Nat.le_refl _) : p := h
theorem zz63 {p : Prop} (h : p := by first | rfl | (simp; done) | (simp only [← hji6] <;> (first | rfl | simp)) | (simp [*]; done)) : p := h
theorem zz64 {p a b c : Prop} (x0_ : a) (x1_ : b) (x2_ : c) (h : a → b → c → p := by intro x0_ x1_ x2_; have := x0_; have := x1_; have := x2_; omega) : p := h x0_ x1_ x2_
theorem zz65 {p : Prop} (h : p := by rw [← hq_]; exact (bG GE134)) : p := h
theorem zz66 {p : Prop} (h : p := by rw [← hq_]; exact (bL BK134)) : p := h
theorem zz67 {p a : Prop} (x0_ : a) (h : a → p := by intro x0_; rw [hw]; exact below_set (HB.out) x0_) : p := h x0_
theorem zz68 {p : Prop} (h : p := by rw [hg]; exact (below_size (bG2 GE253 GE257))) : p := h
theorem zz69 {p : Prop} (h : p := by rw [hw]; exact (bG2 GE193 GE203)) : p := h
end Go.Proofs.YtecpanfndodjgaaDoor.PBuilds
