/- Part of the proof: what its walks use. -/
import Derived.Test.YtjopgmjmjnfcjaaProg
import Derived.Below
import Derived.Deep.Draws
import Derived.Deep.AppendLies
import Derived.Maps.AppendAt
import Derived.OwnWalk
import Derived.Laws.BytesArg
import Derived.Laws.MakeOwn
import Derived.Laws.OwnMore
import Derived.Deep.OwnRows
import Derived.Tactics
import Derived.Lib.ConvBytes
import Derived.Laws.Slices
import Derived.WalkKit
import Derived.KernelRfl
import Derived.RowKit3
import Derived.Deep.LoopGhost
import Derived.Deep.QuietTactic
import Derived.BigQuiet
import Derived.WideLaws
import Derived.Deep.DeepCutAuto
import Derived.Deep.CutBlock
import Derived.Deep.RegionHeld3
import Derived.Laws.Rows
import Derived.Lib.AppendStr
import Derived.ArgAppend
import Derived.Laws.IdiomCopy
import Derived.OrdersHeld
import Derived.Laws.BitsLemmas
import Derived.RowKit
import Derived.WalkSpells
import Derived.Shelf.Bytes.SlIndexAt
import Derived.Shelf.Strings.Search2
import Derived.Test.YtjopgmjmjnfcjaaWWords
import Derived.Test.YtjopgmjmjnfcjaaWLast
import Derived.Test.YtjopgmjmjnfcjaaWTab
import Derived.Test.YtjopgmjmjnfcjaaWFour
import Derived.Test.YtjopgmjmjnfcjaaWQPut
import Derived.Test.YtjopgmjmjnfcjaaWApart
import Derived.Test.YtjopgmjmjnfcjaaWArr
import Derived.Test.YtjopgmjmjnfcjaaWZeros
import Derived.Test.YtjopgmjmjnfcjaaWFoot
import Derived.Test.YtjopgmjmjnfcjaaWKept
import Derived.Test.YtjopgmjmjnfcjaaWShare
import Derived.Test.YtjopgmjmjnfcjaaWN
import Derived.Test.YtjopgmjmjnfcjaaWFootNe
import Derived.Test.YtjopgmjmjnfcjaaWAt
import Derived.Test.YtjopgmjmjnfcjaaWEqStruct
import Derived.Test.YtjopgmjmjnfcjaaWRepsOne
import Derived.Test.YtjopgmjmjnfcjaaWInv
import Derived.Test.YtjopgmjmjnfcjaaWInvWords
import Derived.Test.YtjopgmjmjnfcjaaWGuard
import Derived.Test.YtjopgmjmjnfcjaaWNEv
import Derived.Test.YtjopgmjmjnfcjaaWMore
import Derived.Test.YtjopgmjmjnfcjaaWConv
import Derived.Test.YtjopgmjmjnfcjaaWAbbr
namespace Go.Proofs.Ytjopgmjmjnfcjaa.PHeaders
open Go.RowKit Go.Proofs.YtjopgmjmjnfcjaaW.PrintWords Go.Proofs.YtjopgmjmjnfcjaaW.PrintLast Go.Proofs.YtjopgmjmjnfcjaaW.PrintMore
set_option linter.unusedVariables false
set_option linter.unusedSimpArgs false
def errW : Option Int → Value
  | none => .nilIface
  | some c => .iface 0 (.int .i64 c)
theorem errW_none : errW none = .nilIface := rfl
theorem errW_some (c : Int) : errW (some c) = .iface 0 (.int .i64 c) := rfl
theorem info2 : (Try.prog.info? 2).map (fun i => (i.zero, i.size, i.bytes)) = some (some (.int .i64 0), 1, 8) := by kernel_rfl
theorem info5 : (Try.prog.info? 5).map (fun i => (i.zero, i.size, i.bytes)) = some (some (.int .u8 0), 1, 1) := by kernel_rfl
theorem info69 : (Try.prog.info? 69).map (fun i => (i.zero, i.size, i.bytes)) = some (some (.agg #[(.string ⟨#[]⟩), (.string ⟨#[]⟩)]), 2, 32) := by kernel_rfl
structure S69 where
  f0 : ByteArray
  f1 : ByteArray
def z69 : S69 := ⟨(⟨#[]⟩ : ByteArray), (⟨#[]⟩ : ByteArray)⟩
def k69 : Kd S69 := Kd.iso (Kd.pair Kd.string Kd.string) (fun x : S69 => (x.f0, x.f1))
theorem k69_open {w : World} {x : S69} {cs : List Value} (h : k69.K w x cs) : cs = [.string x.f0, .string x.f1] := by
  obtain ⟨_, _, rfl, rfl, rfl⟩ := h
  exact rfl
theorem k69_openM {w : World} {base : Nat} {ok : Nat → Prop} {x : S69} {cs : List Value} (h : k69.M w base ok x cs) : cs = [.string x.f0, .string x.f1] := by
  obtain ⟨_, _, rfl, rfl, rfl⟩ := h
  exact rfl
theorem k69_mkM (w : World) (base : Nat) (ok : Nat → Prop) (x : S69)  : k69.M w base ok x [.string x.f0, .string x.f1] := ⟨[.string x.f0], [.string x.f1], rfl, rfl, rfl⟩
def rd_T69 (xs : List S69) (i : Int) : S69 := xs.getD i.toNat z69
theorem at_T69 {w : World} {A : Option Addr} {n : Nat} {xs : List S69} (h : Kd.C k69 w A n xs) (i : Int) (h0 : 0 ≤ i) (h1 : i < n) : ∃ ad , A = some ad ∧ w.cell? (ad.add (i.toNat * 2)) = some (.string (rd_T69 xs i).f0) ∧ w.cell? ⟨(ad.add (i.toNat * 2)).block, (ad.add (i.toNat * 2)).off + 1, none⟩ = some (.string (rd_T69 xs i).f1) := by
  obtain ⟨ad, c, e, _, hK, hc0⟩ := Kd.C_get h z69 i h0 h1
  have hc : ∀ j u, c[j]? = some u → w.cell? (ad.add (i.toNat * 2 + j)) = some u := hc0
  obtain rfl := k69_open hK
  exact ⟨ad, e, hc 0 _ rfl, by rw [← add_field _ _ 1 (by omega)]; exact hc 1 _ rfl⟩
@[go_sem] theorem fld32_0 (x0 x1 : Value) (w : World) : (Instr.field 32 (.agg #[x0, x1]) 0).run Try.prog w = .ok x0 w := by kernel_rfl
@[go_sem] theorem fld49_0 (x0 x1 : Value) (w : World) : (Instr.field 49 (.agg #[x0, x1]) 0).run Try.prog w = .ok x0 w := by kernel_rfl
@[go_sem] theorem fld49_1 (x0 x1 : Value) (w : World) : (Instr.field 49 (.agg #[x0, x1]) 1).run Try.prog w = .ok x1 w := by kernel_rfl
@[go_sem] theorem fld61_0 (x0 x1 x2 : Value) (w : World) : (Instr.field 61 (.agg #[x0, x1, x2]) 0).run Try.prog w = .ok x0 w := by kernel_rfl
@[go_sem] theorem fld61_1 (x0 x1 x2 : Value) (w : World) : (Instr.field 61 (.agg #[x0, x1, x2]) 1).run Try.prog w = .ok x1 w := by kernel_rfl
theorem z0 {p a : Prop} (x0_ : a) (h : a → p := by intro x0_; repeat (first | (with_reducible first | exact x0_ | apply IsS107.alloc | apply IsS107.drewN | apply IsS107.drew | apply IsS107.set_1) | exact x0_)) : p := h x0_
theorem z1 {p a : Prop} (x0_ : a) (h : a → p := by intro x0_; repeat (first | (with_reducible first | exact HB.out | apply below_alloc | apply pw_below_drewN | apply below_drew1 | refine below_set ?_ (IsS107.ge x0_)) | exact HB.out)) : p := h x0_
theorem z2 {p : Prop} (h : p := by repeat (first | (with_reducible first | exact HK.out | apply KeepBut.set_ | apply keep_drewN | apply keep_drew | apply keep_alloc) | exact HK.out)) : p := h
theorem z3 {p a : Prop} (x0_ : a) (h : a → p := by intro x0_; first | (rw [x0_]; with_reducible exact H) | (have H2_ := (Option.bind_some _ _).symm.trans H; rw [x0_]; with_reducible exact H2_) | (have H2_ := (Option.bind_some _ _).symm.trans H; with_reducible exact H2_) | with_reducible exact H | (rw [x0_]; exact H) | exact H) : p := h x0_
theorem z4 {p : Prop} (h : p := by first | (simp only [putAll, Act.put, List.setIfInBounds_toArray, List.set_cons_zero, List.set_cons_succ]; done) | (simp only [putAll, Act.put, List.setIfInBounds_toArray, List.set_cons_zero, List.set_cons_succ]; rfl)) : p := h
theorem z5 {p a : Prop} (x0_ : a) (h : a → p := by intro x0_; repeat (first | exact (Kd.R_reads' x0_).2.2 | (with_reducible refine Kd.C_alloc ?_ _) | (with_reducible refine Kd.C_drewN ?_ _) | (with_reducible refine Kd.C_drew ?_))) : p := h x0_
theorem z6 {p a : Prop} (x0_ : a) (h : a → p := by intro x0_; repeat (first | exact (Kd.C_below x0_ HB.out) | (with_reducible refine Kd.C_alloc ?_ _) | (with_reducible refine Kd.C_drewN ?_ _) | (with_reducible refine Kd.C_drew ?_))) : p := h x0_
theorem z7 {p a : Prop} (x0_ : a) (h : a → p := by intro x0_; (with_reducible repeat (first | apply Kd.R_alloc | apply Kd.R_drewN | apply Kd.R_drew)); exact Kd.R_mono x0_ (fun _ hk => hk.2)) : p := h x0_
theorem z8 {p a b : Prop} (x0_ : a) (x1_ : b) (h : a → b → p := by intro x0_ x1_; (with_reducible repeat (first | apply Kd.R_alloc | apply Kd.R_drewN | apply Kd.R_drew)); exact Kd.R_mono (Kd.R_far (p := ⟨gb506, 2, none⟩) (Kd.R_far (p := ⟨gb506, 1, none⟩) (Kd.R_far (p := ⟨gb506, 0, none⟩) (Kd.R_types x0_ x1_ (by decide)) (fun _ hk => hk.2) (.int .i64 t501)) (fun _ hk => hk.2) (.int .i64 t502)) (fun _ hk => hk.2) (.slice Ao12 t503.length co12)) (fun _ hk => trivial)) : p := h x0_ x1_
theorem z9 {p : Prop} (h : p := by repeat (first | exact Drawn0.refl _ | apply Drawn0.step)) : p := h
theorem z10 {p a b : Prop} (x0_ : a) (x1_ : b) (h : a → b → p := by intro x0_ x1_; (with_reducible repeat (first | refine blk_drewN ?_ _ | refine blk_drew ?_ | refine blk_alloc ?_ _)); refine blk_far ?_ x0_ _; (with_reducible repeat (first | refine blk_drewN ?_ _ | refine blk_drew ?_ | refine blk_alloc ?_ _)); refine blk_far ?_ x0_ _; (with_reducible repeat (first | refine blk_drewN ?_ _ | refine blk_drew ?_ | refine blk_alloc ?_ _)); refine blk_far ?_ x0_ _; (with_reducible repeat (first | refine blk_drewN ?_ _ | refine blk_drew ?_ | refine blk_alloc ?_ _)); exact x1_) : p := h x0_ x1_
theorem z11 {p a : Prop} (x0_ : a) (h : a → p := by intro x0_; (with_reducible repeat (first | refine blk_drewN ?_ _ | refine blk_drew ?_ | refine blk_alloc ?_ _)); refine blk_put (cs := #[.int .i64 t501, .int .i64 t502, .slice none 0 0]) ?_ 2 _ rfl; (with_reducible repeat (first | refine blk_drewN ?_ _ | refine blk_drew ?_ | refine blk_alloc ?_ _)); refine blk_put (cs := #[.int .i64 t501, .int .i64 0, .slice none 0 0]) ?_ 1 _ rfl; (with_reducible repeat (first | refine blk_drewN ?_ _ | refine blk_drew ?_ | refine blk_alloc ?_ _)); refine blk_put (cs := #[.int .i64 0, .int .i64 0, .slice none 0 0]) ?_ 0 _ rfl; (with_reducible repeat (first | refine blk_drewN ?_ _ | refine blk_drew ?_ | refine blk_alloc ?_ _)); exact x0_) : p := h x0_
theorem z12 {p a b c : Prop} (x0_ : a) (x1_ : b) (x2_ : c) (h : a → b → c → p := by intro x0_ x1_ x2_; repeat (first | (with_reducible first | exact HB.out | apply below_alloc | apply pw_below_drewN | apply below_drew1 | refine below_set ?_ x0_ | refine below_set ?_ x1_ | refine below_set ?_ x2_) | exact HB.out)) : p := h x0_ x1_ x2_
theorem z13 {p a b : Prop} (x0_ : a) (x1_ : b) (h : a → b → p := by intro x0_ x1_; (with_reducible repeat (first | apply Kd.R_alloc | apply Kd.R_drewN | apply Kd.R_drew)); exact Kd.R_mono (Kd.R_far (p := ⟨gb544, 2, none⟩) (Kd.R_far (p := ⟨gb544, 1, none⟩) (Kd.R_far (p := ⟨gb544, 0, none⟩) (Kd.R_types x0_ x1_ (by decide)) (fun _ hk => hk.2) (.int .i64 t539)) (fun _ hk => hk.2) (.int .i64 t540)) (fun _ hk => hk.2) (.slice Ao71 t541.length co71)) (fun _ hk => ⟨hk.1.1.2, hk.1.2⟩)) : p := h x0_ x1_
theorem z14 {p : Prop} (h : p := by first | (go_simp; done) | (go_simp; rfl)) : p := h
theorem z15 {p a : Prop} (x0_ : a) (h : a → p := by intro x0_; (with_reducible repeat (first | apply Kd.R_alloc | apply Kd.R_drewN | apply Kd.R_drew)); exact Kd.R_mono x0_ (fun _ hk => trivial)) : p := h x0_
theorem z16 {p a : Prop} (x0_ : a) (h : a → p := by intro x0_; (with_reducible repeat (first | refine blk_drewN ?_ _ | refine blk_drew ?_ | refine blk_alloc ?_ _)); refine blk_put (cs := #[.int .i64 t539, .int .i64 t540, .slice none 0 0]) ?_ 2 _ rfl; (with_reducible repeat (first | refine blk_drewN ?_ _ | refine blk_drew ?_ | refine blk_alloc ?_ _)); refine blk_put (cs := #[.int .i64 t539, .int .i64 0, .slice none 0 0]) ?_ 1 _ rfl; (with_reducible repeat (first | refine blk_drewN ?_ _ | refine blk_drew ?_ | refine blk_alloc ?_ _)); refine blk_put (cs := #[.int .i64 0, .int .i64 0, .slice none 0 0]) ?_ 0 _ rfl; (with_reducible repeat (first | refine blk_drewN ?_ _ | refine blk_drew ?_ | refine blk_alloc ?_ _)); exact x0_) : p := h x0_
theorem z17 {p a : Prop} (x0_ : a) (h : a → p := by intro x0_; exact (by (with_reducible repeat (first | apply Kd.R_alloc | apply Kd.R_drewN | apply Kd.R_drew)); exact Kd.R_mono x0_ (fun _ hk => hk.2))) : p := h x0_
theorem z18 {p a b : Prop} (x0_ : a) (x1_ : b) (h : a → b → p := by intro x0_ x1_; (with_reducible repeat (first | refine blk_drewN ?_ _ | refine blk_drew ?_ | refine blk_alloc ?_ _)); refine blk_far ?_ x0_ _; (with_reducible repeat (first | refine blk_drewN ?_ _ | refine blk_drew ?_ | refine blk_alloc ?_ _)); refine blk_far ?_ x0_ _; (with_reducible repeat (first | refine blk_drewN ?_ _ | refine blk_drew ?_ | refine blk_alloc ?_ _)); exact x1_) : p := h x0_ x1_
theorem z19 {p : Prop} (h : p := by first | exact Kd.R_nil _ _ _ _ _ | exact Kd.N_nil _ _ _ _ _ | exact Kd.V_nil _ _ _ _ _ | exact Kd.Q_nil _ _ _ _ _ | exact Kd.S_nil _ _ _ _ _) : p := h
theorem z20 {p a : Prop} (x0_ : a) (h : a → p := by intro x0_; (with_reducible repeat (first | refine blk_drewN ?_ _ | refine blk_drew ?_ | refine blk_alloc ?_ _)); refine blk_put (cs := #[.string ((rd_T69 l0 x10_1).f0), .string (⟨#[]⟩ : ByteArray)]) ?_ 1 _ rfl; (with_reducible repeat (first | refine blk_drewN ?_ _ | refine blk_drew ?_ | refine blk_alloc ?_ _)); refine blk_put (cs := #[.string (⟨#[]⟩ : ByteArray), .string (⟨#[]⟩ : ByteArray)]) ?_ 0 _ rfl; (with_reducible repeat (first | refine blk_drewN ?_ _ | refine blk_drew ?_ | refine blk_alloc ?_ _)); exact x0_) : p := h x0_
theorem z21 {p a b c d : Prop} (x0_ : a) (x1_ : b) (x2_ : c) (x3_ : d) (h : a → b → c → d → p := by intro x0_ x1_ x2_ x3_; repeat (first | (with_reducible first | exact HB.out | apply below_alloc | apply pw_below_drewN | apply below_drew1 | refine below_set ?_ x0_ | refine below_set ?_ x1_ | refine below_set ?_ x2_ | refine below_set ?_ x3_) | exact HB.out)) : p := h x0_ x1_ x2_ x3_
theorem z22 {p a b : Prop} (x0_ : a) (x1_ : b) (h : a → b → p := by intro x0_ x1_; (with_reducible repeat (first | apply Kd.R_alloc | apply Kd.R_drewN | apply Kd.R_drew)); exact Kd.R_mono (Kd.R_far (p := ⟨gb544, 2, none⟩) (Kd.R_far (p := ⟨gb544, 1, none⟩) (Kd.R_far (p := ⟨gb544, 0, none⟩) (Kd.R_types x0_ x1_ (by decide)) (fun _ hk => hk.2) (.int .i64 t539)) (fun _ hk => hk.2) (.int .i64 t540)) (fun _ hk => hk.2) (.slice Ao71 t541.length co71)) (fun _ hk => ⟨hk.1.2, hk.1.1.2⟩)) : p := h x0_ x1_
theorem z23 {p : Prop} (h : p := by rw [if_neg (show ¬ (false = true) by decide)] at H; exact H) : p := h
theorem z24 {p a b : Prop} (x0_ : a) (x1_ : b) (h : a → b → p := by intro x0_ x1_; (with_reducible repeat (first | apply Kd.R_alloc | apply Kd.R_drewN | apply Kd.R_drew)); exact Kd.R_mono (Kd.R_far (p := ⟨gb544, 2, none⟩) (Kd.R_far (p := ⟨gb544, 1, none⟩) (Kd.R_far (p := ⟨gb544, 0, none⟩) (Kd.R_types x0_ x1_ (by decide)) (fun _ hk => hk.2) (.int .i64 t539)) (fun _ hk => hk.2) (.int .i64 t540)) (fun _ hk => hk.2) (.slice Ao71 t541.length co71)) (fun _ hk => trivial)) : p := h x0_ x1_
theorem z25 {p : Prop} (h : p := by rw [hg]; exact (below_size bB)) : p := h
theorem z26 {p a b : Prop} (x0_ : a) (x1_ : b) (h : a → b → p := by intro x0_ x1_; (with_reducible repeat (first | apply Kd.R_alloc | apply Kd.R_drewN | apply Kd.R_drew)); exact (Kd.R_mono (Kd.R_far (p := ⟨gb525, 1, none⟩) (Kd.R_far (p := ⟨gb525, 0, none⟩) (Kd.R_types x0_ x1_ (by decide)) (fun _ hk => hk.2) (.int .i64 t521)) (fun _ hk => hk.2) (.slice Ao59 t522.length co59)) (fun _ h_ => h_.1))) : p := h x0_ x1_
theorem z27 {p a b : Prop} (x0_ : a) (x1_ : b) (h : a → b → p := by intro x0_ x1_; (with_reducible repeat (first | apply Kd.R_alloc | apply Kd.R_drewN | apply Kd.R_drew)); exact Kd.R_mono (Kd.R_far (p := ⟨gb556, 1, none⟩) (Kd.R_far (p := ⟨gb556, 0, none⟩) (Kd.R_types x0_ x1_ (by decide)) (fun _ hk => hk.2) (.int .i64 t554)) (fun _ hk => hk.2) (.string t555)) (fun _ hk => ⟨hk.1.1.1, ⟨hk.1.1.2, hk.1.2⟩⟩)) : p := h x0_ x1_
theorem z28 {p a : Prop} (x0_ : a) (h : a → p := by intro x0_; repeat (first | exact x0_ | (with_reducible refine Kd.C_alloc ?_ _) | (with_reducible refine Kd.C_drewN ?_ _) | (with_reducible refine Kd.C_drew ?_))) : p := h x0_
theorem z29 {p a : Prop} (x0_ : a) (h : a → p := by intro x0_; exact (below_size (by repeat (first | (with_reducible first | exact HB.out | apply below_alloc | apply pw_below_drewN | apply below_drew1 | refine below_set ?_ (IsS107.ge x0_)) | exact HB.out)))) : p := h x0_
theorem z30 {p : Prop} (h : p := by simp only [putAll, Act.put, List.setIfInBounds_toArray, List.set_cons_zero, List.set_cons_succ]) : p := h
theorem z31 {p a : Prop} (x0_ : a) (h : a → p := by intro x0_; exact (by repeat (first | (with_reducible first | exact HB.out | apply below_alloc | apply pw_below_drewN | apply below_drew1 | refine below_set ?_ (IsS107.ge x0_)) | exact HB.out))) : p := h x0_
theorem z32 {p a : Prop} (x0_ : a) (h : a → p := by intro x0_; (with_reducible repeat (first | apply Kd.R_alloc | apply Kd.R_drewN | apply Kd.R_drew)); exact Kd.R_mono x0_ (fun _ hk => ⟨trivial, hk⟩)) : p := h x0_
theorem z33 {p : Prop} (h : p := by have h_ := of_decide_eq_true (show decide ((wrap64 (x6_1 + x7_7)) ≤ (l0.length : Int)) = true by assumption); rw [List.length_drop, List.length_take]; omega) : p := h
theorem z34 {p : Prop} (h : p := by exact (keep_size (w := w) (g := g) (row := none) (by repeat (first | (with_reducible first | exact HK.out | apply KeepBut.set_ | apply keep_drewN | apply keep_drew | apply keep_alloc) | exact HK.out)))) : p := h
theorem z35 {p : Prop} (h : p := by rw [if_pos rfl] at H; exact H) : p := h
theorem z36 {p : Prop} (h : p := by repeat (first | (with_reducible first | exact HB.out | apply below_alloc | apply pw_below_drewN | apply below_drew1) | exact HB.out)) : p := h
theorem z37 {p : Prop} (h : p := by rw [hg]; exact Nat.ne_of_gt (blk_lt (g := gb506) (o := .cells #[.int .i64 t501, .int .i64 t502, .slice Ao12 t503.length co12] 61 (0, 0)) (bL BK506))) : p := h
theorem z38 {p : Prop} (h : p := by rw [hg]; exact Nat.ne_of_lt (blk_lt (g := gb506) (o := .cells #[.int .i64 t501, .int .i64 t502, .slice Ao12 t503.length co12] 61 (0, 0)) (bL BK506))) : p := h
theorem z39 {p : Prop} (h : p := by have : (0 : Int) < ((strOfNums ((l0.take ((wrap64 (x6_1 + x7_7)) : Int).toNat).drop (x6_1 : Int).toNat)).size : Int) := pI; omega) : p := h
theorem z40 {p : Prop} (h : p := by first | rfl | (simp [errW_none, errW_some] <;> rfl) | (simp only [← hji26]; first | rfl | (simp [errW_none, errW_some] <;> rfl)) | (simp [*, errW_none, errW_some] <;> rfl)) : p := h
theorem z41 {p : Prop} (h : p := by (with_reducible repeat (first | apply Kd.R_alloc | apply Kd.R_drewN | apply Kd.R_drew)); exact (Q_HO493 h0_)) : p := h
theorem z42 {p : Prop} (h : p := by first | omega | exact Nat.le_refl _) : p := h
theorem z43 {p : Prop} (h : p := by have h_ := of_decide_eq_true (show decide (t222 ≤ (l0.length : Int)) = true by assumption); rw [List.length_drop, List.length_take]; omega) : p := h
theorem z44 {p a : Prop} (x0_ : a) (h : a → p := by intro x0_; (try simp only [hl3_1]); (with_reducible repeat (first | apply Kd.R_alloc | apply Kd.R_drewN | apply Kd.R_drew)); exact x0_) : p := h x0_
theorem z45 {p : Prop} (h : p := by rw [← hq_]; exact (bR HO_3)) : p := h
theorem z46 {p a : Prop} (x0_ : a) (h : a → p := by intro x0_; have := x0_; first | omega | exact Nat.le_refl _) : p := h x0_
theorem z47 {p a : Prop} (x0_ : a) (h : a → p := by intro x0_; rw [hw]; exact below_set (HB.out) x0_) : p := h x0_
end Go.Proofs.Ytjopgmjmjnfcjaa.PHeaders
