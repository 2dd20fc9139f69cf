/- Part of the proof; words that it uses. -/
import Derived.Test.YtjopgmjmjnfcjaaDoorProg
import Derived.Below
import Derived.Deep.Draws
import Derived.Deep.AppendLies
import Derived.Maps.AppendAt
import Derived.OwnWalk
import Derived.Laws.BytesArg
import Derived.Laws.MakeOwn
import Derived.Laws.OwnMore
import Derived.Deep.OwnRows
import Derived.Tactics
import Derived.Lib.ConvBytes
import Derived.Laws.Slices
import Derived.WalkKit
import Derived.KernelRfl
import Derived.RowKit3
import Derived.Deep.LoopGhost
import Derived.Deep.QuietTactic
import Derived.BigQuiet
import Derived.WideLaws
import Derived.Deep.DeepCutAuto
import Derived.Deep.CutBlock
import Derived.Deep.RegionHeld3
import Derived.Laws.Rows
import Derived.Lib.AppendStr
import Derived.ArgAppend
import Derived.Laws.IdiomCopy
import Derived.OrdersHeld
import Derived.Laws.BitsLemmas
import Derived.RowKit
import Derived.WalkSpells
import Derived.Laws.CopyOwn
import Derived.StillTailTactics
import Derived.Lib.Builder
import Derived.Shelf.Strings.Trim
import Derived.Shelf.Small.Strs
import Derived.Shelf.Strings.Split
import Derived.Shelf.Strings.SlTrimAscii
import Derived.Shelf.Strings.Trim
import Derived.Test.YtjopgmjmjnfcjaaDoorWWords
import Derived.Test.YtjopgmjmjnfcjaaDoorWLast
import Derived.Test.YtjopgmjmjnfcjaaDoorWTab
import Derived.Test.YtjopgmjmjnfcjaaDoorWFour
import Derived.Test.YtjopgmjmjnfcjaaDoorWQPut
import Derived.Test.YtjopgmjmjnfcjaaDoorWApart
import Derived.Test.YtjopgmjmjnfcjaaDoorWArr
import Derived.Test.YtjopgmjmjnfcjaaDoorWZeros
import Derived.Test.YtjopgmjmjnfcjaaDoorWFoot
import Derived.Test.YtjopgmjmjnfcjaaDoorWKept
import Derived.Test.YtjopgmjmjnfcjaaDoorWShare
import Derived.Test.YtjopgmjmjnfcjaaDoorWN
import Derived.Test.YtjopgmjmjnfcjaaDoorWFootNe
import Derived.Test.YtjopgmjmjnfcjaaDoorWAt
import Derived.Test.YtjopgmjmjnfcjaaDoorWEqStruct
import Derived.Test.YtjopgmjmjnfcjaaDoorWRepsOne
import Derived.Test.YtjopgmjmjnfcjaaDoorWInv
import Derived.Test.YtjopgmjmjnfcjaaDoorWInvWords
import Derived.Test.YtjopgmjmjnfcjaaDoorWGuard
import Derived.Test.YtjopgmjmjnfcjaaDoorWNEv
import Derived.Test.YtjopgmjmjnfcjaaDoorWMore
import Derived.Test.YtjopgmjmjnfcjaaDoorWConv
import Derived.Test.YtjopgmjmjnfcjaaDoorWAbbr
namespace Go.Proofs.YtjopgmjmjnfcjaaDoor.PDecodeWords
open Go.RowKit Go.Proofs.YtjopgmjmjnfcjaaDoorW.PrintWords Go.Proofs.YtjopgmjmjnfcjaaDoorW.PrintLast
set_option linter.unusedVariables false
set_option linter.unusedSimpArgs false
def errW : Option Int → Value
  | none => .nilIface
  | some c => .iface 0 (.int .i64 c)
theorem errW_none : errW none = .nilIface := rfl
theorem errW_some (c : Int) : errW (some c) = .iface 0 (.int .i64 c) := rfl
theorem info2 : (Tryd.prog.info? 2).map (fun i => (i.zero, i.size, i.bytes)) = some (some (.int .i64 0), 1, 8) := by kernel_rfl
theorem info5 : (Tryd.prog.info? 5).map (fun i => (i.zero, i.size, i.bytes)) = some (some (.int .u8 0), 1, 1) := by kernel_rfl
theorem z0 {p a : Prop} (x0_ : a) (h : a → p := by intro x0_; first | (rw [x0_]; with_reducible exact H) | (have H2_ := (Option.bind_some _ _).symm.trans H; rw [x0_]; with_reducible exact H2_) | (have H2_ := (Option.bind_some _ _).symm.trans H; with_reducible exact H2_) | with_reducible exact H | (rw [x0_]; exact H) | exact H) : p := h x0_
theorem z1 {p a b : Prop} (x0_ : a) (x1_ : b) (h : a → b → p := by intro x0_ x1_; (with_reducible repeat (first | refine blk_drewN ?_ _ | refine blk_drew ?_ | refine blk_alloc ?_ _)); refine blk_far ?_ x0_ _; (with_reducible repeat (first | refine blk_drewN ?_ _ | refine blk_drew ?_ | refine blk_alloc ?_ _)); refine blk_far ?_ x0_ _; (with_reducible repeat (first | refine blk_drewN ?_ _ | refine blk_drew ?_ | refine blk_alloc ?_ _)); exact x1_) : p := h x0_ x1_
theorem z2 {p : Prop} (h : p := by repeat (first | exact Drawn0.refl _ | apply Drawn0.step)) : p := h
theorem z3 {p a : Prop} (x0_ : a) (h : a → p := by intro x0_; repeat (first | exact (Kd.R_reads' x0_).2.2 | (with_reducible refine Kd.C_alloc ?_ _) | (with_reducible refine Kd.C_drewN ?_ _) | (with_reducible refine Kd.C_drew ?_))) : p := h x0_
theorem z4 {p : Prop} (h : p := by first | exact Kd.R_nil _ _ _ _ _ | exact Kd.N_nil _ _ _ _ _ | exact Kd.V_nil _ _ _ _ _ | exact Kd.Q_nil _ _ _ _ _ | exact Kd.S_nil _ _ _ _ _) : p := h
theorem z5 {p a : Prop} (x0_ : a) (h : a → p := by intro x0_; (with_reducible repeat (first | refine blk_drewN ?_ _ | refine blk_drew ?_ | refine blk_alloc ?_ _)); refine blk_put (cs := #[.int .i64 t385, .slice none 0 0]) ?_ 1 _ rfl; (with_reducible repeat (first | refine blk_drewN ?_ _ | refine blk_drew ?_ | refine blk_alloc ?_ _)); refine blk_put (cs := #[.int .i64 0, .slice none 0 0]) ?_ 0 _ rfl; (with_reducible repeat (first | refine blk_drewN ?_ _ | refine blk_drew ?_ | refine blk_alloc ?_ _)); exact x0_) : p := h x0_
theorem z6 {p a b : Prop} (x0_ : a) (x1_ : b) (h : a → b → p := by intro x0_ x1_; (with_reducible repeat (first | apply Kd.R_alloc | apply Kd.R_drewN | apply Kd.R_drew)); exact (Kd.R_mono (Kd.R_far (p := ⟨gb389, 1, none⟩) (Kd.R_far (p := ⟨gb389, 0, none⟩) (Kd.R_types x0_ x1_ (by decide)) (fun _ hk => hk.2) (.int .i64 t385)) (fun _ hk => hk.2) (.slice Ao60 t386.length co60)) (fun _ h_ => h_.1))) : p := h x0_ x1_
theorem z7 {p a b : Prop} (x0_ : a) (x1_ : b) (h : a → b → p := by intro x0_ x1_; (with_reducible repeat (first | apply Kd.R_alloc | apply Kd.R_drewN | apply Kd.R_drew)); exact (Kd.R_mono (Kd.R_far (p := ⟨gb389, 1, none⟩) (Kd.R_far (p := ⟨gb389, 0, none⟩) (Kd.R_types x0_ x1_ (by decide)) (fun _ hk => hk.2) (.int .i64 t385)) (fun _ hk => hk.2) (.slice Ao36 t386.length co36)) (fun _ h_ => h_.1))) : p := h x0_ x1_
theorem z8 {p a b : Prop} (x0_ : a) (x1_ : b) (h : a → b → p := by intro x0_ x1_; (with_reducible repeat (first | apply Kd.R_alloc | apply Kd.R_drewN | apply Kd.R_drew)); exact (Kd.R_mono (Kd.R_far (p := ⟨gb389, 1, none⟩) (Kd.R_far (p := ⟨gb389, 0, none⟩) (Kd.R_types x0_ x1_ (by decide)) (fun _ hk => hk.2) (.int .i64 t385)) (fun _ hk => hk.2) (.slice Ao48 t386.length co48)) (fun _ h_ => h_.1))) : p := h x0_ x1_
theorem z9 {p : Prop} (h : p := by rw [hg]; exact Nat.ne_of_lt (blk_lt (g := gb379) (o := .cells #[.int .i64 t377, .int .i64 t378] 33 (0, 0)) (bL BK379))) : p := h
theorem z10 {p : Prop} (h : p := by rw [hg]; exact Nat.ne_of_gt (blk_lt (g := gb379) (o := .cells #[.int .i64 t377, .int .i64 t378] 33 (0, 0)) (bL BK379))) : p := h
theorem z11 {p : Prop} (h : p := by first | (go_simp; done) | (go_simp; rfl)) : p := h
theorem z12 {p a : Prop} (x0_ : a) (h : a → p := by intro x0_; (with_reducible repeat (first | refine blk_drewN ?_ _ | refine blk_drew ?_ | refine blk_alloc ?_ _)); refine blk_put (cs := #[.int .i64 t459, .slice none 0 0]) ?_ 1 _ rfl; (with_reducible repeat (first | refine blk_drewN ?_ _ | refine blk_drew ?_ | refine blk_alloc ?_ _)); refine blk_put (cs := #[.int .i64 0, .slice none 0 0]) ?_ 0 _ rfl; (with_reducible repeat (first | refine blk_drewN ?_ _ | refine blk_drew ?_ | refine blk_alloc ?_ _)); exact x0_) : p := h x0_
theorem z13 {p a : Prop} (x0_ : a) (h : a → p := by intro x0_; (with_reducible repeat (first | refine blk_drewN ?_ _ | refine blk_drew ?_ | refine blk_alloc ?_ _)); refine blk_put (cs := #[.int .i64 t454, .slice none 0 0]) ?_ 1 _ rfl; (with_reducible repeat (first | refine blk_drewN ?_ _ | refine blk_drew ?_ | refine blk_alloc ?_ _)); refine blk_put (cs := #[.int .i64 0, .slice none 0 0]) ?_ 0 _ rfl; (with_reducible repeat (first | refine blk_drewN ?_ _ | refine blk_drew ?_ | refine blk_alloc ?_ _)); exact x0_) : p := h x0_
theorem z14 {p : Prop} (h : p := by rw [if_neg (show ¬ (false = true) by decide)] at H; exact H) : p := h
theorem z15 {p a : Prop} (x0_ : a) (h : a → p := by intro x0_; (with_reducible repeat (first | refine blk_drewN ?_ _ | refine blk_drew ?_ | refine blk_alloc ?_ _)); refine blk_put (cs := #[.int .i64 2, .slice none 0 0]) ?_ 1 _ rfl; (with_reducible repeat (first | refine blk_drewN ?_ _ | refine blk_drew ?_ | refine blk_alloc ?_ _)); refine blk_put (cs := #[.int .i64 0, .slice none 0 0]) ?_ 0 _ rfl; (with_reducible repeat (first | refine blk_drewN ?_ _ | refine blk_drew ?_ | refine blk_alloc ?_ _)); exact x0_) : p := h x0_
theorem z16 {p : Prop} (h : p := by exact strings_SplitN.below HM_.out (by repeat (first | (with_reducible first | exact HB.out | apply below_alloc | apply pw_below_drewN | apply below_drew1 | refine below_set ?_ GE458.out | refine below_set ?_ GE463.out | refine below_set ?_ GE472.out) | exact HB.out))) : p := h
theorem z17 {p a b c : Prop} (x0_ : a) (x1_ : b) (x2_ : c) (h : a → b → c → p := by intro x0_ x1_ x2_; repeat (first | (with_reducible first | exact HB.out | apply below_alloc | apply pw_below_drewN | apply below_drew1 | refine below_set ?_ x0_ | refine below_set ?_ x1_ | refine below_set ?_ x2_) | exact HB.out)) : p := h x0_ x1_ x2_
theorem z18 {p : Prop} (h : p := by rw [hg]; exact (below_size bB)) : p := h
theorem z19 {p a : Prop} (x0_ : a) (h : a → p := by intro x0_; (try simp only [List.map_toArray, List.map_cons, List.map_nil]); first | done | (rw [show t466.length = t460.length from (Kd.R_reads' x0_).1.symm] <;> rfl) | rfl | (simp only [List.length_drop, List.length_take]; rfl)) : p := h x0_
theorem z20 {p a : Prop} (x0_ : a) (h : a → p := by intro x0_; (with_reducible repeat (first | apply Kd.R_alloc | apply Kd.R_drewN | apply Kd.R_drew)); exact Kd.R_mono x0_ (fun _ hk => trivial)) : p := h x0_
theorem z21 {p a : Prop} (x0_ : a) (h : a → p := by intro x0_; (with_reducible repeat (first | refine blk_drewN ?_ _ | refine blk_drew ?_ | refine blk_alloc ?_ _)); refine blk_put (cs := #[.int .i64 t468, .slice none 0 0]) ?_ 1 _ rfl; (with_reducible repeat (first | refine blk_drewN ?_ _ | refine blk_drew ?_ | refine blk_alloc ?_ _)); refine blk_put (cs := #[.int .i64 0, .slice none 0 0]) ?_ 0 _ rfl; (with_reducible repeat (first | refine blk_drewN ?_ _ | refine blk_drew ?_ | refine blk_alloc ?_ _)); exact x0_) : p := h x0_
theorem z22 {p a : Prop} (x0_ : a) (h : a → p := by intro x0_; (with_reducible repeat (first | refine blk_drewN ?_ _ | refine blk_drew ?_ | refine blk_alloc ?_ _)); refine blk_put (cs := #[.int .i64 0, .slice none 0 0]) ?_ 1 _ rfl; (with_reducible repeat (first | refine blk_drewN ?_ _ | refine blk_drew ?_ | refine blk_alloc ?_ _)); refine blk_put (cs := #[.int .i64 0, .slice none 0 0]) ?_ 0 _ rfl; (with_reducible repeat (first | refine blk_drewN ?_ _ | refine blk_drew ?_ | refine blk_alloc ?_ _)); exact x0_) : p := h x0_
theorem z23 {p a : Prop} (x0_ : a) (h : a → p := by intro x0_; exact (by (with_reducible repeat (first | apply Kd.R_alloc | apply Kd.R_drewN | apply Kd.R_drew)); exact Kd.R_mono x0_ (fun _ hk => hk.2))) : p := h x0_
theorem z25 {p : Prop} (h : p := by rw [hg]; exact (below_size (bG GE379))) : p := h
theorem z26 {p a b : Prop} (x0_ : a) (x1_ : b) (h : a → b → p := by intro x0_ x1_; (with_reducible repeat (first | apply Kd.R_alloc | apply Kd.R_drewN | apply Kd.R_drew)); exact (Kd.R_mono (Kd.R_far (p := ⟨gb472, 1, none⟩) (Kd.R_far (p := ⟨gb472, 0, none⟩) (Kd.R_types x0_ x1_ (by decide)) (fun _ hk => hk.2) (.int .i64 t468)) (fun _ hk => hk.2) (.slice Ao127 t469.length co127)) (fun _ h_ => h_.1))) : p := h x0_ x1_
theorem z27 {p a b : Prop} (x0_ : a) (x1_ : b) (h : a → b → p := by intro x0_ x1_; (with_reducible repeat (first | apply Kd.R_alloc | apply Kd.R_drewN | apply Kd.R_drew)); exact (Kd.R_mono (Kd.R_far (p := ⟨gb472, 1, none⟩) (Kd.R_far (p := ⟨gb472, 0, none⟩) (Kd.R_types x0_ x1_ (by decide)) (fun _ hk => hk.2) (.int .i64 t468)) (fun _ hk => hk.2) (.slice Ao102 t469.length co102)) (fun _ h_ => h_.1))) : p := h x0_ x1_
theorem z28 {p a b : Prop} (x0_ : a) (x1_ : b) (h : a → b → p := by intro x0_ x1_; (with_reducible repeat (first | apply Kd.R_alloc | apply Kd.R_drewN | apply Kd.R_drew)); exact (Kd.R_mono (Kd.R_far (p := ⟨gb472, 1, none⟩) (Kd.R_far (p := ⟨gb472, 0, none⟩) (Kd.R_types x0_ x1_ (by decide)) (fun _ hk => hk.2) (.int .i64 t468)) (fun _ hk => hk.2) (.slice Ao51 t469.length co51)) (fun _ h_ => h_.1))) : p := h x0_ x1_
theorem z29 {p a b : Prop} (x0_ : a) (x1_ : b) (h : a → b → p := by intro x0_ x1_; (with_reducible repeat (first | apply Kd.R_alloc | apply Kd.R_drewN | apply Kd.R_drew)); exact (Kd.R_mono (Kd.R_far (p := ⟨gb472, 1, none⟩) (Kd.R_far (p := ⟨gb472, 0, none⟩) (Kd.R_types x0_ x1_ (by decide)) (fun _ hk => hk.2) (.int .i64 t468)) (fun _ hk => hk.2) (.slice Ao77 t469.length co77)) (fun _ h_ => h_.1))) : p := h x0_ x1_
theorem z30 {p a : Prop} (x0_ : a) (h : a → p := by intro x0_; repeat (first | exact (Kd.C_below x0_ HB.out) | (with_reducible refine Kd.C_alloc ?_ _) | (with_reducible refine Kd.C_drewN ?_ _) | (with_reducible refine Kd.C_drew ?_))) : p := h x0_
theorem z31 {p : Prop} (h : p := by rw [if_pos rfl] at H; exact H) : p := h
theorem z32 {p : Prop} (h : p := by exact strings_SplitN.below HM_.out (by repeat (first | (with_reducible first | exact HB.out | apply below_alloc | apply pw_below_drewN | apply below_drew1) | exact HB.out))) : p := h
theorem z33 {p a b : Prop} (x0_ : a) (x1_ : b) (h : a → b → p := by intro x0_ x1_; refine (Kd.R_reads' (e := 5) (base := w.heap.size) (ok := fun k_ => (True ∧ some k_ ≠ (v381 : Value).ownBlock)) (n := t386.length) (c := co48) ?_).2.2; exact (by (with_reducible repeat (first | apply Kd.R_alloc | apply Kd.R_drewN | apply Kd.R_drew)); exact (Kd.R_mono (Kd.R_far (p := ⟨gb389, 1, none⟩) (Kd.R_far (p := ⟨gb389, 0, none⟩) (Kd.R_types x0_ x1_ (by decide)) (fun _ hk => hk.2) (.int .i64 t385)) (fun _ hk => hk.2) (.slice Ao48 t386.length co48)) (fun _ h_ => h_.1)))) : p := h x0_ x1_
theorem z34 {p a b : Prop} (x0_ : a) (x1_ : b) (h : a → b → p := by intro x0_ x1_; refine (Kd.R_reads' (e := 5) (base := w.heap.size) (ok := fun k_ => (True ∧ some k_ ≠ (v381 : Value).ownBlock)) (n := t386.length) (c := co36) ?_).2.2; exact (by (with_reducible repeat (first | apply Kd.R_alloc | apply Kd.R_drewN | apply Kd.R_drew)); exact (Kd.R_mono (Kd.R_far (p := ⟨gb389, 1, none⟩) (Kd.R_far (p := ⟨gb389, 0, none⟩) (Kd.R_types x0_ x1_ (by decide)) (fun _ hk => hk.2) (.int .i64 t385)) (fun _ hk => hk.2) (.slice Ao36 t386.length co36)) (fun _ h_ => h_.1)))) : p := h x0_ x1_
theorem z35 {p a b : Prop} (x0_ : a) (x1_ : b) (h : a → b → p := by intro x0_ x1_; refine (Kd.R_reads' (e := 5) (base := w.heap.size) (ok := fun k_ => (True ∧ some k_ ≠ (v381 : Value).ownBlock)) (n := t386.length) (c := co60) ?_).2.2; exact (by (with_reducible repeat (first | apply Kd.R_alloc | apply Kd.R_drewN | apply Kd.R_drew)); exact (Kd.R_mono (Kd.R_far (p := ⟨gb389, 1, none⟩) (Kd.R_far (p := ⟨gb389, 0, none⟩) (Kd.R_types x0_ x1_ (by decide)) (fun _ hk => hk.2) (.int .i64 t385)) (fun _ hk => hk.2) (.slice Ao60 t386.length co60)) (fun _ h_ => h_.1)))) : p := h x0_ x1_
theorem z36 {p a : Prop} (x0_ : a) (h : a → p := by intro x0_; (with_reducible repeat (first | refine blk_drewN ?_ _ | refine blk_drew ?_ | refine blk_alloc ?_ _)); refine blk_put (cs := #[.int .i64 t377, .int .i64 0]) ?_ 1 _ rfl; (with_reducible repeat (first | refine blk_drewN ?_ _ | refine blk_drew ?_ | refine blk_alloc ?_ _)); refine blk_put (cs := #[.int .i64 0, .int .i64 0]) ?_ 0 _ rfl; (with_reducible repeat (first | refine blk_drewN ?_ _ | refine blk_drew ?_ | refine blk_alloc ?_ _)); exact x0_) : p := h x0_
theorem z37 {p a b : Prop} (x0_ : a) (x1_ : b) (h : a → b → p := by intro x0_ x1_; have := x0_; have := x1_; first | omega | exact Nat.le_refl _) : p := h x0_ x1_
theorem z38 {p a b : Prop} (x0_ : a) (x1_ : b) (h : a → b → p := by intro x0_ x1_; (with_reducible repeat (first | apply Kd.R_alloc | apply Kd.R_drewN | apply Kd.R_drew)); exact (Kd.R_mono (Kd.R_far (p := ⟨gb463, 1, none⟩) (Kd.R_far (p := ⟨gb463, 0, none⟩) (Kd.R_types x0_ x1_ (by decide)) (fun _ hk => hk.2) (.int .i64 t459)) (fun _ hk => hk.2) (.slice Ao138 t460.length co138)) (fun _ h_ => h_.1))) : p := h x0_ x1_
theorem z39 {p a b : Prop} (x0_ : a) (x1_ : b) (h : a → b → p := by intro x0_ x1_; (with_reducible repeat (first | apply Kd.R_alloc | apply Kd.R_drewN | apply Kd.R_drew)); exact (Kd.R_mono (Kd.R_far (p := ⟨gb463, 1, none⟩) (Kd.R_far (p := ⟨gb463, 0, none⟩) (Kd.R_types x0_ x1_ (by decide)) (fun _ hk => hk.2) (.int .i64 t459)) (fun _ hk => hk.2) (.slice Ao115 t460.length co115)) (fun _ h_ => h_.1))) : p := h x0_ x1_
theorem z40 {p a b : Prop} (x0_ : a) (x1_ : b) (h : a → b → p := by intro x0_ x1_; (with_reducible repeat (first | apply Kd.R_alloc | apply Kd.R_drewN | apply Kd.R_drew)); exact (Kd.R_mono (Kd.R_far (p := ⟨gb463, 1, none⟩) (Kd.R_far (p := ⟨gb463, 0, none⟩) (Kd.R_types x0_ x1_ (by decide)) (fun _ hk => hk.2) (.int .i64 t459)) (fun _ hk => hk.2) (.slice Ao153 t460.length co153)) (fun _ h_ => h_.1))) : p := h x0_ x1_
theorem z41 {p a b : Prop} (x0_ : a) (x1_ : b) (h : a → b → p := by intro x0_ x1_; (with_reducible repeat (first | apply Kd.R_alloc | apply Kd.R_drewN | apply Kd.R_drew)); exact (Kd.R_mono (Kd.R_far (p := ⟨gb463, 1, none⟩) (Kd.R_far (p := ⟨gb463, 0, none⟩) (Kd.R_types x0_ x1_ (by decide)) (fun _ hk => hk.2) (.int .i64 t459)) (fun _ hk => hk.2) (.slice Ao90 t460.length co90)) (fun _ h_ => h_.1))) : p := h x0_ x1_
theorem z42 {p a b : Prop} (x0_ : a) (x1_ : b) (h : a → b → p := by intro x0_ x1_; (with_reducible repeat (first | apply Kd.R_alloc | apply Kd.R_drewN | apply Kd.R_drew)); exact (Kd.R_mono (Kd.R_far (p := ⟨gb463, 1, none⟩) (Kd.R_far (p := ⟨gb463, 0, none⟩) (Kd.R_types x0_ x1_ (by decide)) (fun _ hk => hk.2) (.int .i64 t459)) (fun _ hk => hk.2) (.slice Ao65 t460.length co65)) (fun _ h_ => h_.1))) : p := h x0_ x1_
theorem z43 {p a b : Prop} (x0_ : a) (x1_ : b) (h : a → b → p := by intro x0_ x1_; (with_reducible repeat (first | apply Kd.R_alloc | apply Kd.R_drewN | apply Kd.R_drew)); exact (Kd.R_mono (Kd.R_far (p := ⟨gb463, 1, none⟩) (Kd.R_far (p := ⟨gb463, 0, none⟩) (Kd.R_types x0_ x1_ (by decide)) (fun _ hk => hk.2) (.int .i64 t459)) (fun _ hk => hk.2) (.slice Ao39 t460.length co39)) (fun _ h_ => h_.1))) : p := h x0_ x1_
theorem z44 {p a b : Prop} (x0_ : a) (x1_ : b) (h : a → b → p := by intro x0_ x1_; (with_reducible repeat (first | apply Kd.R_alloc | apply Kd.R_drewN | apply Kd.R_drew)); exact (Kd.R_mono (Kd.R_far (p := ⟨gb463, 1, none⟩) (Kd.R_far (p := ⟨gb463, 0, none⟩) (Kd.R_types x0_ x1_ (by decide)) (fun _ hk => hk.2) (.int .i64 t459)) (fun _ hk => hk.2) (.slice Ao18 t460.length co18)) (fun _ h_ => h_.1))) : p := h x0_ x1_
theorem z45 {p a : Prop} (x0_ : a) (h : a → p := by intro x0_; have := x0_; first | omega | exact Nat.le_refl _) : p := h x0_
theorem z46 {p a b : Prop} (x0_ : a) (x1_ : b) (h : a → b → p := by intro x0_ x1_; repeat (first | (with_reducible first | exact HB.out | apply below_alloc | apply pw_below_drewN | apply below_drew1 | refine below_set ?_ x0_ | refine below_set ?_ x1_) | exact HB.out)) : p := h x0_ x1_
theorem z47 {p a b : Prop} (x0_ : a) (x1_ : b) (h : a → b → p := by intro x0_ x1_; (with_reducible repeat (first | apply Kd.R_alloc | apply Kd.R_drewN | apply Kd.R_drew)); exact (Kd.R_mono (Kd.R_far (p := ⟨gb379, 1, none⟩) (Kd.R_far (p := ⟨gb379, 0, none⟩) (Kd.R_types x0_ x1_ (by decide)) (fun _ hk => hk.2) (.int .i64 t377)) (fun _ hk => hk.2) (.int .i64 t378)) (fun _ h_ => h_.1))) : p := h x0_ x1_
theorem z48 {p : Prop} (h : p := by rw [hg]; exact (below_size (bG2 GE379 GE389))) : p := h
theorem z49 {p : Prop} (h : p := by first | omega | exact Nat.le_refl _) : p := h
theorem z50 {p a : Prop} (x0_ : a) (h : a → p := by intro x0_; rw [show t466.length = t460.length from (Kd.R_reads' x0_).1.symm]; exact (Kd.R_reads' x0_).2.1) : p := h x0_
theorem z51 {p : Prop} (h : p := by exact strings_SplitN.below HM_.out (by repeat (first | (with_reducible first | exact HB.out | apply below_alloc | apply pw_below_drewN | apply below_drew1 | refine below_set ?_ GE379.out | refine below_set ?_ GE389.out | refine below_set ?_ GE394.out) | exact HB.out))) : p := h
theorem z52 {p a : Prop} (x0_ : a) (h : a → p := by intro x0_; repeat (first | exact x0_ | (with_reducible refine Kd.C_alloc ?_ _) | (with_reducible refine Kd.C_drewN ?_ _) | (with_reducible refine Kd.C_drew ?_))) : p := h x0_
theorem z53 {p a : Prop} (x0_ : a) (h : a → p := by intro x0_; (with_reducible repeat (first | apply Kd.V_alloc | apply Kd.V_drewN | apply Kd.V_drew)); exact x0_) : p := h x0_
theorem z54 {p : Prop} (h : p := by first | rfl | (simp [errW_none, errW_some] <;> rfl) | (simp only [← hji32, ← hji37, ← hji41]; first | rfl | (simp [errW_none, errW_some] <;> rfl)) | (simp [*, errW_none, errW_some] <;> rfl)) : p := h
theorem z55 {p : Prop} (h : p := by rw [hg]; exact (below_size (bG GE458))) : p := h
theorem z56 {p a : Prop} (x0_ : a) (h : a → p := by intro x0_; (with_reducible repeat (first | apply Kd.R_alloc | apply Kd.R_drewN | apply Kd.R_drew)); exact Kd.R_mono x0_ (fun _ hk => ⟨trivial, hk⟩)) : p := h x0_
theorem z57 {p : Prop} (h : p := by repeat (first | (with_reducible first | exact HB.out | apply below_alloc | apply pw_below_drewN | apply below_drew1) | exact HB.out)) : p := h
theorem z58 {p : Prop} (h : p := by rw [hg]; exact Nat.ne_of_lt (blk_lt (g := gb444) (o := .cells #[.int .i64 a0_0, .slice A0_1 l0_1.length c0_1] 39 (0, 0)) (bL BK444))) : p := h
theorem z59 {p : Prop} (h : p := by rw [hg]; exact Nat.ne_of_gt (blk_lt (g := gb389) (o := .cells #[.int .i64 t385, .slice Ao48 t386.length co48] 26 (0, 0)) (bL BK389))) : p := h
theorem z60 {p : Prop} (h : p := by rw [hg]; exact Nat.ne_of_gt (blk_lt (g := gb389) (o := .cells #[.int .i64 t385, .slice Ao36 t386.length co36] 26 (0, 0)) (bL BK389))) : p := h
theorem z61 {p : Prop} (h : p := by rw [hg]; exact Nat.ne_of_gt (blk_lt (g := gb389) (o := .cells #[.int .i64 t385, .slice Ao60 t386.length co60] 26 (0, 0)) (bL BK389))) : p := h
theorem z62 {p : Prop} (h : p := by rw [hg]; exact Nat.ne_of_lt (blk_lt (g := gb389) (o := .cells #[.int .i64 t385, .slice Ao60 t386.length co60] 26 (0, 0)) (bL BK389))) : p := h
theorem z63 {p : Prop} (h : p := by rw [hg]; exact Nat.ne_of_lt (blk_lt (g := gb389) (o := .cells #[.int .i64 t385, .slice Ao48 t386.length co48] 26 (0, 0)) (bL BK389))) : p := h
theorem z64 {p : Prop} (h : p := by rw [hg]; exact Nat.ne_of_lt (blk_lt (g := gb389) (o := .cells #[.int .i64 t385, .slice Ao36 t386.length co36] 26 (0, 0)) (bL BK389))) : p := h
theorem z65 {p : Prop} (h : p := by rw [hg]; exact Nat.ne_of_gt (blk_lt (g := gb444) (o := .cells #[.int .i64 a0_0, .slice A0_1 l0_1.length c0_1] 39 (0, 0)) (bL BK444))) : p := h
theorem z66 {p a b c d e : Prop} (x0_ : a) (x1_ : b) (x2_ : c) (x3_ : d) (x4_ : e) (h : a → b → c → d → e → p := by intro x0_ x1_ x2_ x3_ x4_; have := x0_; have := x1_; have := x2_; have := x3_; have := x4_; first | omega | exact Nat.le_refl _) : p := h x0_ x1_ x2_ x3_ x4_
theorem z67 {p : Prop} (h : p := by first | (rw [add_block]; exact hn395_0) | (show (Addr.add _ _).block ≠ _; rw [add_block]; exact hn395_0) | exact hn395_0) : p := h
theorem z68 {p : Prop} (h : p := by first | (rw [add_block]; exact hn406_1) | (show (Addr.add _ _).block ≠ _; rw [add_block]; exact hn406_1) | exact hn406_1) : p := h
theorem z69 {p : Prop} (h : p := by first | (rw [add_block]; exact hn395_1) | (show (Addr.add _ _).block ≠ _; rw [add_block]; exact hn395_1) | exact hn395_1) : p := h
theorem z70 {p : Prop} (h : p := by first | (rw [add_block]; exact hn406_0) | (show (Addr.add _ _).block ≠ _; rw [add_block]; exact hn406_0) | exact hn406_0) : p := h
theorem z71 {p : Prop} (h : p := by rw [hg]; exact (below_size (bG2 GE458 GE463))) : p := h
theorem z72 {p a : Prop} (x0_ : a) (h : a → p := by intro x0_; (try simp only [hl3_1]); (with_reducible repeat (first | apply Kd.R_alloc | apply Kd.R_drewN | apply Kd.R_drew)); exact x0_) : p := h x0_
theorem z73 {p : Prop} (h : p := by rw [← hq_]; exact (bR HO_3)) : p := h
theorem z74 {p a b c : Prop} (x0_ : a) (x1_ : b) (x2_ : c) (h : a → b → c → p := by intro x0_ x1_ x2_; have := x0_; have := x1_; have := x2_; omega) : p := h x0_ x1_ x2_
theorem z75 {p a : Prop} (x0_ : a) (h : a → p := by intro x0_; rw [impl_baseText.four_take _ _ _ (by omega), ← List.append_assoc, HDK.out]; exact x0_) : p := h x0_
theorem z76 {p a b c : Prop} (x0_ : a) (x1_ : b) (x2_ : c) (h : a → b → c → p := by intro x0_ x1_ x2_; have := x0_; have := x1_; have := x2_; first | omega | exact Nat.le_refl _) : p := h x0_ x1_ x2_
theorem z77 {p : Prop} (h : p := by first | rfl | (simp; done) | (simp only [← hji8] <;> (first | rfl | simp)) | (simp [*]; done)) : p := h
theorem z78 {p : Prop} (h : p := by rw [hg]; exact (below_size (bG GE444))) : p := h
theorem z79 {p a : Prop} (x0_ : a) (h : a → p := by intro x0_; rw [hw]; exact below_set (HB.out) x0_) : p := h x0_
end Go.Proofs.YtjopgmjmjnfcjaaDoor.PDecodeWords
