/- Part of the proof; words that it uses. -/
import Derived.Test.YtjopgmjmjnfcjaaGreatDoorProg
import Derived.Below
import Derived.Deep.Draws
import Derived.Deep.AppendLies
import Derived.Maps.AppendAt
import Derived.OwnWalk
import Derived.Laws.BytesArg
import Derived.Laws.MakeOwn
import Derived.Laws.OwnMore
import Derived.Deep.OwnRows
import Derived.Tactics
import Derived.Lib.ConvBytes
import Derived.Laws.Slices
import Derived.WalkKit
import Derived.KernelRfl
import Derived.RowKit3
import Derived.Deep.LoopGhost
import Derived.Deep.QuietTactic
import Derived.BigQuiet
import Derived.WideLaws
import Derived.Deep.DeepCutAuto
import Derived.Deep.CutBlock
import Derived.Deep.RegionHeld3
import Derived.Laws.Rows
import Derived.Lib.AppendStr
import Derived.ArgAppend
import Derived.Laws.IdiomCopy
import Derived.OrdersHeld
import Derived.Laws.BitsLemmas
import Derived.RowKit
import Derived.WalkSpells
import Derived.Shelf.Strings.Split
import Derived.Laws.CopyOwn
import Derived.StillTailTactics
import Derived.Lib.Builder
import Derived.Shelf.Strings.Trim
import Derived.Shelf.Small.Strs
import Derived.Shelf.Strings.SlTrimAscii
import Derived.Shelf.Strings.Trim
import Derived.Shelf.Strings.Search3
import Derived.Test.YtjopgmjmjnfcjaaGreatDoorWWords
import Derived.Test.YtjopgmjmjnfcjaaGreatDoorWLast
import Derived.Test.YtjopgmjmjnfcjaaGreatDoorWTab
import Derived.Test.YtjopgmjmjnfcjaaGreatDoorWFour
import Derived.Test.YtjopgmjmjnfcjaaGreatDoorWQPut
import Derived.Test.YtjopgmjmjnfcjaaGreatDoorWApart
import Derived.Test.YtjopgmjmjnfcjaaGreatDoorWArr
import Derived.Test.YtjopgmjmjnfcjaaGreatDoorWZeros
import Derived.Test.YtjopgmjmjnfcjaaGreatDoorWFoot
import Derived.Test.YtjopgmjmjnfcjaaGreatDoorWKept
import Derived.Test.YtjopgmjmjnfcjaaGreatDoorWShare
import Derived.Test.YtjopgmjmjnfcjaaGreatDoorWN
import Derived.Test.YtjopgmjmjnfcjaaGreatDoorWFootNe
import Derived.Test.YtjopgmjmjnfcjaaGreatDoorWAt
import Derived.Test.YtjopgmjmjnfcjaaGreatDoorWEqStruct
import Derived.Test.YtjopgmjmjnfcjaaGreatDoorWRepsOne
import Derived.Test.YtjopgmjmjnfcjaaGreatDoorWInv
import Derived.Test.YtjopgmjmjnfcjaaGreatDoorWInvWords
import Derived.Test.YtjopgmjmjnfcjaaGreatDoorWGuard
import Derived.Test.YtjopgmjmjnfcjaaGreatDoorWNEv
import Derived.Test.YtjopgmjmjnfcjaaGreatDoorWMore
import Derived.Test.YtjopgmjmjnfcjaaGreatDoorWConv
import Derived.Test.YtjopgmjmjnfcjaaGreatDoorWAbbr
namespace Go.Proofs.YtjopgmjmjnfcjaaGreatDoor.PWords
open Go.RowKit Go.Proofs.YtjopgmjmjnfcjaaGreatDoorW.PrintWords Go.Proofs.YtjopgmjmjnfcjaaGreatDoorW.PrintLast
set_option linter.unusedVariables false
set_option linter.unusedSimpArgs false
def errW : Option Int → Value
  | none => .nilIface
  | some c => .iface 0 (.int .i64 c)
theorem errW_none : errW none = .nilIface := rfl
theorem errW_some (c : Int) : errW (some c) = .iface 0 (.int .i64 c) := rfl
theorem info2 : (Tryz.prog.info? 2).map (fun i => (i.zero, i.size, i.bytes)) = some (some (.int .i64 0), 1, 8) := by kernel_rfl
theorem info5 : (Tryz.prog.info? 5).map (fun i => (i.zero, i.size, i.bytes)) = some (some (.int .u8 0), 1, 1) := by kernel_rfl
@[go_sem] theorem fld25_0 (x0 x1 : Value) (w : World) : (Instr.field 25 (.agg #[x0, x1]) 0).run Tryz.prog w = .ok x0 w := by kernel_rfl
@[go_sem] theorem fld25_1 (x0 x1 : Value) (w : World) : (Instr.field 25 (.agg #[x0, x1]) 1).run Tryz.prog w = .ok x1 w := by kernel_rfl
@[go_sem] theorem fld39_0 (x0 x1 : Value) (w : World) : (Instr.field 39 (.agg #[x0, x1]) 0).run Tryz.prog w = .ok x0 w := by kernel_rfl
@[go_sem] theorem fld39_1 (x0 x1 : Value) (w : World) : (Instr.field 39 (.agg #[x0, x1]) 1).run Tryz.prog w = .ok x1 w := by kernel_rfl
theorem z0 {p a : Prop} (x0_ : a) (h : a → p := by intro x0_; first | (rw [x0_]; with_reducible exact H) | (have H2_ := (Option.bind_some _ _).symm.trans H; rw [x0_]; with_reducible exact H2_) | (have H2_ := (Option.bind_some _ _).symm.trans H; with_reducible exact H2_) | with_reducible exact H | (rw [x0_]; exact H) | exact H) : p := h x0_
theorem z1 {p a : Prop} (x0_ : a) (h : a → p := by intro x0_; repeat (first | (with_reducible first | exact HB.out | apply below_alloc | apply pw_below_drewN | apply below_drew1 | refine below_set ?_ (IsS73.ge x0_)) | exact HB.out)) : p := h x0_
theorem z2 {p a : Prop} (x0_ : a) (h : a → p := by intro x0_; repeat (first | (with_reducible first | exact x0_ | apply IsS73.alloc | apply IsS73.drewN | apply IsS73.drew | apply IsS73.set_1) | exact x0_)) : p := h x0_
theorem z3 {p : Prop} (h : p := by repeat (first | (with_reducible first | exact HK.out | apply KeepBut.set_ | apply keep_drewN | apply keep_drew | apply keep_alloc) | exact HK.out)) : p := h
theorem z4 {p a : Prop} (x0_ : a) (h : a → p := by intro x0_; repeat (first | exact (Kd.R_reads' x0_).2.2 | (with_reducible refine Kd.C_alloc ?_ _) | (with_reducible refine Kd.C_drewN ?_ _) | (with_reducible refine Kd.C_drew ?_))) : p := h x0_
theorem z5 {p : Prop} (h : p := by repeat (first | exact Drawn0.refl _ | apply Drawn0.step)) : p := h
theorem z6 {p : Prop} (h : p := by first | exact Kd.R_nil _ _ _ _ _ | exact Kd.N_nil _ _ _ _ _ | exact Kd.V_nil _ _ _ _ _ | exact Kd.Q_nil _ _ _ _ _ | exact Kd.S_nil _ _ _ _ _) : p := h
theorem z7 {p : Prop} (h : p := by rw [if_neg (show ¬ (false = true) by decide)] at H; exact H) : p := h
theorem z8 {p a : Prop} (x0_ : a) (h : a → p := by intro x0_; (with_reducible repeat (first | refine blk_drewN ?_ _ | refine blk_drew ?_ | refine blk_alloc ?_ _)); refine blk_put (cs := #[.int .i64 2, .slice none 0 0]) ?_ 1 _ rfl; (with_reducible repeat (first | refine blk_drewN ?_ _ | refine blk_drew ?_ | refine blk_alloc ?_ _)); refine blk_put (cs := #[.int .i64 0, .slice none 0 0]) ?_ 0 _ rfl; (with_reducible repeat (first | refine blk_drewN ?_ _ | refine blk_drew ?_ | refine blk_alloc ?_ _)); exact x0_) : p := h x0_
theorem z9 {p a : Prop} (x0_ : a) (h : a → p := by intro x0_; (with_reducible repeat (first | apply Kd.R_alloc | apply Kd.R_drewN | apply Kd.R_drew)); exact Kd.R_mono x0_ (fun _ hk => trivial)) : p := h x0_
theorem z10 {p : Prop} (h : p := by first | (go_simp; done) | (go_simp; rfl)) : p := h
theorem z11 {p a b : Prop} (x0_ : a) (x1_ : b) (h : a → b → p := by intro x0_ x1_; (with_reducible repeat (first | refine blk_drewN ?_ _ | refine blk_drew ?_ | refine blk_alloc ?_ _)); refine blk_far ?_ x0_ _; (with_reducible repeat (first | refine blk_drewN ?_ _ | refine blk_drew ?_ | refine blk_alloc ?_ _)); refine blk_far ?_ x0_ _; (with_reducible repeat (first | refine blk_drewN ?_ _ | refine blk_drew ?_ | refine blk_alloc ?_ _)); exact x1_) : p := h x0_ x1_
theorem z12 {p a : Prop} (x0_ : a) (h : a → p := by intro x0_; repeat (first | exact (Kd.C_below x0_ HB.out) | (with_reducible refine Kd.C_alloc ?_ _) | (with_reducible refine Kd.C_drewN ?_ _) | (with_reducible refine Kd.C_drew ?_))) : p := h x0_
theorem z13 {p a : Prop} (x0_ : a) (h : a → p := by intro x0_; exact (by (with_reducible repeat (first | apply Kd.R_alloc | apply Kd.R_drewN | apply Kd.R_drew)); exact Kd.R_mono x0_ (fun _ hk => hk.2))) : p := h x0_
theorem z15 {p a b c : Prop} (x0_ : a) (x1_ : b) (x2_ : c) (h : a → b → c → p := by intro x0_ x1_ x2_; repeat (first | (with_reducible first | exact HB.out | apply below_alloc | apply pw_below_drewN | apply below_drew1 | refine below_set ?_ x0_ | refine below_set ?_ x1_ | refine below_set ?_ x2_) | exact HB.out)) : p := h x0_ x1_ x2_
theorem z16 {p : Prop} (h : p := by rw [if_pos rfl] at H; exact H) : p := h
theorem z17 {p a : Prop} (x0_ : a) (h : a → p := by intro x0_; (with_reducible repeat (first | refine blk_drewN ?_ _ | refine blk_drew ?_ | refine blk_alloc ?_ _)); refine blk_put (cs := #[.int .i64 t618, .slice none 0 0]) ?_ 1 _ rfl; (with_reducible repeat (first | refine blk_drewN ?_ _ | refine blk_drew ?_ | refine blk_alloc ?_ _)); refine blk_put (cs := #[.int .i64 0, .slice none 0 0]) ?_ 0 _ rfl; (with_reducible repeat (first | refine blk_drewN ?_ _ | refine blk_drew ?_ | refine blk_alloc ?_ _)); exact x0_) : p := h x0_
theorem z18 {p a : Prop} (x0_ : a) (h : a → p := by intro x0_; (with_reducible repeat (first | refine blk_drewN ?_ _ | refine blk_drew ?_ | refine blk_alloc ?_ _)); refine blk_put (cs := #[.int .i64 0, .slice none 0 0]) ?_ 1 _ rfl; (with_reducible repeat (first | refine blk_drewN ?_ _ | refine blk_drew ?_ | refine blk_alloc ?_ _)); refine blk_put (cs := #[.int .i64 0, .slice none 0 0]) ?_ 0 _ rfl; (with_reducible repeat (first | refine blk_drewN ?_ _ | refine blk_drew ?_ | refine blk_alloc ?_ _)); exact x0_) : p := h x0_
theorem z19 {p a : Prop} (x0_ : a) (h : a → p := by intro x0_; repeat (first | exact x0_ | (with_reducible refine Kd.C_alloc ?_ _) | (with_reducible refine Kd.C_drewN ?_ _) | (with_reducible refine Kd.C_drew ?_))) : p := h x0_
theorem z20 {p : Prop} (h : p := by exact strings_SplitN.below HM_.out (by repeat (first | (with_reducible first | exact HB.out | apply below_alloc | apply pw_below_drewN | apply below_drew1) | exact HB.out))) : p := h
theorem z21 {p : Prop} (h : p := by rw [hg]; exact (below_size bB)) : p := h
theorem z22 {p a : Prop} (x0_ : a) (h : a → p := by intro x0_; (with_reducible repeat (first | refine blk_drewN ?_ _ | refine blk_drew ?_ | refine blk_alloc ?_ _)); refine blk_put (cs := #[.int .i64 t368, .slice none 0 0]) ?_ 1 _ rfl; (with_reducible repeat (first | refine blk_drewN ?_ _ | refine blk_drew ?_ | refine blk_alloc ?_ _)); refine blk_put (cs := #[.int .i64 0, .slice none 0 0]) ?_ 0 _ rfl; (with_reducible repeat (first | refine blk_drewN ?_ _ | refine blk_drew ?_ | refine blk_alloc ?_ _)); exact x0_) : p := h x0_
theorem z23 {p a b : Prop} (x0_ : a) (x1_ : b) (h : a → b → p := by intro x0_ x1_; have := x0_; have := x1_; first | omega | exact Nat.le_refl _) : p := h x0_ x1_
theorem z24 {p a b : Prop} (x0_ : a) (x1_ : b) (h : a → b → p := by intro x0_ x1_; (with_reducible repeat (first | apply Kd.R_alloc | apply Kd.R_drewN | apply Kd.R_drew)); exact (Kd.R_mono (Kd.R_far (p := ⟨gb372, 1, none⟩) (Kd.R_far (p := ⟨gb372, 0, none⟩) (Kd.R_types x0_ x1_ (by decide)) (fun _ hk => hk.2) (.int .i64 t368)) (fun _ hk => hk.2) (.slice Ao48 t369.length co48)) (fun _ h_ => h_.1))) : p := h x0_ x1_
theorem z25 {p a b : Prop} (x0_ : a) (x1_ : b) (h : a → b → p := by intro x0_ x1_; (with_reducible repeat (first | apply Kd.R_alloc | apply Kd.R_drewN | apply Kd.R_drew)); exact (Kd.R_mono (Kd.R_far (p := ⟨gb372, 1, none⟩) (Kd.R_far (p := ⟨gb372, 0, none⟩) (Kd.R_types x0_ x1_ (by decide)) (fun _ hk => hk.2) (.int .i64 t368)) (fun _ hk => hk.2) (.slice Ao36 t369.length co36)) (fun _ h_ => h_.1))) : p := h x0_ x1_
theorem z26 {p a b : Prop} (x0_ : a) (x1_ : b) (h : a → b → p := by intro x0_ x1_; (with_reducible repeat (first | apply Kd.R_alloc | apply Kd.R_drewN | apply Kd.R_drew)); exact (Kd.R_mono (Kd.R_far (p := ⟨gb372, 1, none⟩) (Kd.R_far (p := ⟨gb372, 0, none⟩) (Kd.R_types x0_ x1_ (by decide)) (fun _ hk => hk.2) (.int .i64 t368)) (fun _ hk => hk.2) (.slice Ao60 t369.length co60)) (fun _ h_ => h_.1))) : p := h x0_ x1_
theorem z27 {p a b : Prop} (x0_ : a) (x1_ : b) (h : a → b → p := by intro x0_ x1_; (with_reducible repeat (first | apply Kd.R_alloc | apply Kd.R_drewN | apply Kd.R_drew)); exact Kd.R_mono (Kd.R_far (p := ⟨gb622, 1, none⟩) (Kd.R_far (p := ⟨gb622, 0, none⟩) (Kd.R_types x0_ x1_ (by decide)) (fun _ hk => hk.2) (.int .i64 t618)) (fun _ hk => hk.2) (.slice Ao11 t619.length co11)) (fun _ hk => trivial)) : p := h x0_ x1_
theorem z28 {p a b : Prop} (x0_ : a) (x1_ : b) (h : a → b → p := by intro x0_ x1_; (with_reducible repeat (first | apply Kd.R_alloc | apply Kd.R_drewN | apply Kd.R_drew)); exact (Kd.R_mono (Kd.R_far (p := ⟨gb638, 1, none⟩) (Kd.R_far (p := ⟨gb638, 0, none⟩) (Kd.R_types x0_ x1_ (by decide)) (fun _ hk => hk.2) (.int .i64 t636)) (fun _ hk => hk.2) (.string t637)) (fun _ h_ => h_.1))) : p := h x0_ x1_
theorem z29 {p : Prop} (h : p := by rw [hg]; exact Nat.ne_of_lt (blk_lt (g := gb362) (o := .cells #[.int .i64 t360, .int .i64 t361] 101 (0, 0)) (bL BK362))) : p := h
theorem z30 {p : Prop} (h : p := by rw [hg]; exact Nat.ne_of_gt (blk_lt (g := gb362) (o := .cells #[.int .i64 t360, .int .i64 t361] 101 (0, 0)) (bL BK362))) : p := h
theorem z31 {p a : Prop} (x0_ : a) (h : a → p := by intro x0_; have := x0_; first | omega | exact Nat.le_refl _) : p := h x0_
theorem z32 {p : Prop} (h : p := by repeat (first | (with_reducible first | exact HB.out | apply below_alloc | apply pw_below_drewN | apply below_drew1) | exact HB.out)) : p := h
theorem z33 {p : Prop} (h : p := by exact strings_Contains.below HM_.out (by repeat (first | (with_reducible first | exact HB.out | apply below_alloc | apply pw_below_drewN | apply below_drew1 | refine below_set ?_ GE622.out | refine below_set ?_ GE638.out | refine below_set ?_ GE645.out) | exact HB.out))) : p := h
theorem z34 {p : Prop} (h : p := by first | omega | exact Nat.le_refl _) : p := h
theorem z35 {p a b : Prop} (x0_ : a) (x1_ : b) (h : a → b → p := by intro x0_ x1_; (with_reducible repeat (first | apply Kd.R_alloc | apply Kd.R_drewN | apply Kd.R_drew)); exact Kd.R_mono (Kd.R_far (p := ⟨gb645, 1, none⟩) (Kd.R_far (p := ⟨gb645, 0, none⟩) (Kd.R_types x0_ x1_ (by decide)) (fun _ hk => hk.2) (.int .i64 t641)) (fun _ hk => hk.2) (.slice Ao58 t642.length co58)) (fun _ hk => ⟨hk.1.1.2, hk.1.2⟩)) : p := h x0_ x1_
theorem z36 {p : Prop} (h : p := by (with_reducible repeat (first | apply Kd.R_alloc | apply Kd.R_drewN | apply Kd.R_drew)); exact (Q_HO225 h0_)) : p := h
theorem z37 {p a : Prop} (x0_ : a) (h : a → p := by intro x0_; (with_reducible repeat (first | apply Kd.V_alloc | apply Kd.V_drewN | apply Kd.V_drew)); exact x0_) : p := h x0_
theorem z38 {p : Prop} (h : p := by first | rfl | (simp [errW_none, errW_some] <;> rfl) | (simp only [← hji32, ← hji37, ← hji41]; first | rfl | (simp [errW_none, errW_some] <;> rfl)) | (simp [*, errW_none, errW_some] <;> rfl)) : p := h
theorem z39 {p : Prop} (h : p := by rw [hg]; exact (below_size (bG GE362))) : p := h
theorem z40 {p a : Prop} (x0_ : a) (h : a → p := by intro x0_; (with_reducible repeat (first | apply Kd.R_alloc | apply Kd.R_drewN | apply Kd.R_drew)); exact Kd.R_mono x0_ (fun _ hk => ⟨trivial, hk⟩)) : p := h x0_
theorem z41 {p : Prop} (h : p := by rw [hg]; exact Nat.ne_of_lt (blk_lt (g := gb622) (o := .cells #[.int .i64 t618, .slice Ao11 t619.length co11] 25 (0, 0)) (bL BK622))) : p := h
theorem z42 {p : Prop} (h : p := by rw [hg]; exact Nat.ne_of_gt (blk_lt (g := gb622) (o := .cells #[.int .i64 t618, .slice Ao11 t619.length co11] 25 (0, 0)) (bL BK622))) : p := h
theorem z43 {p a b c d e : Prop} (x0_ : a) (x1_ : b) (x2_ : c) (x3_ : d) (x4_ : e) (h : a → b → c → d → e → p := by intro x0_ x1_ x2_ x3_ x4_; have := x0_; have := x1_; have := x2_; have := x3_; have := x4_; first | omega | exact Nat.le_refl _) : p := h x0_ x1_ x2_ x3_ x4_
theorem z44 {p a : Prop} (x0_ : a) (h : a → p := by intro x0_; (try simp only [hl3_1]); (with_reducible repeat (first | apply Kd.R_alloc | apply Kd.R_drewN | apply Kd.R_drew)); exact x0_) : p := h x0_
theorem z45 {p : Prop} (h : p := by rw [← hq_]; exact (bR HO_3)) : p := h
theorem z46 {p a b c : Prop} (x0_ : a) (x1_ : b) (x2_ : c) (h : a → b → c → p := by intro x0_ x1_ x2_; have := x0_; have := x1_; have := x2_; omega) : p := h x0_ x1_ x2_
theorem z47 {p a : Prop} (x0_ : a) (h : a → p := by intro x0_; rw [impl_baseText.four_take _ _ _ (by omega), ← List.append_assoc, HDK.out]; exact x0_) : p := h x0_
theorem z48 {p a b c : Prop} (x0_ : a) (x1_ : b) (x2_ : c) (h : a → b → c → p := by intro x0_ x1_ x2_; have := x0_; have := x1_; have := x2_; first | omega | exact Nat.le_refl _) : p := h x0_ x1_ x2_
theorem z49 {p : Prop} (h : p := by first | rfl | (simp; done) | (simp only [← hji8] <;> (first | rfl | simp)) | (simp [*]; done)) : p := h
theorem z50 {p : Prop} (h : p := by rw [hg]; exact (below_size (bG2 GE362 GE372))) : p := h
theorem z51 {p : Prop} (h : p := by rw [ha]; exact (putSel_off rfl).trans rfl) : p := h
theorem z52 {p : Prop} (h : p := by first | (rw [hji8] at H; exact H) | (simp only [hji8] at H ⊢; exact H)) : p := h
theorem z53 {p a : Prop} (x0_ : a) (h : a → p := by intro x0_; rw [hw]; exact below_set (HB.out) x0_) : p := h x0_
end Go.Proofs.YtjopgmjmjnfcjaaGreatDoor.PWords
