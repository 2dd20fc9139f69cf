/- Part of the proof; words that it uses. -/
import Derived.Test.YtjopgmjmjnfcjaaGreatDoorProg
import Derived.Below
import Derived.Deep.Draws
import Derived.Deep.AppendLies
import Derived.Maps.AppendAt
import Derived.OwnWalk
import Derived.Laws.BytesArg
import Derived.Laws.MakeOwn
import Derived.Laws.OwnMore
import Derived.Deep.OwnRows
import Derived.Tactics
import Derived.Lib.ConvBytes
import Derived.Laws.Slices
import Derived.WalkKit
import Derived.KernelRfl
import Derived.RowKit3
import Derived.Deep.LoopGhost
import Derived.Deep.QuietTactic
import Derived.BigQuiet
import Derived.WideLaws
import Derived.Deep.DeepCutAuto
import Derived.Deep.CutBlock
import Derived.Deep.RegionHeld3
import Derived.Laws.Rows
import Derived.Lib.AppendStr
import Derived.ArgAppend
import Derived.Laws.IdiomCopy
import Derived.OrdersHeld
import Derived.Laws.BitsLemmas
import Derived.RowKit
import Derived.WalkSpells
import Derived.Shelf.Strings.Split
import Derived.Laws.CopyOwn
import Derived.StillTailTactics
import Derived.Lib.Builder
import Derived.Shelf.Strings.Trim
import Derived.Shelf.Small.Strs
import Derived.Shelf.Strings.SlTrimAscii
import Derived.Shelf.Strings.Trim
import Derived.Shelf.Bytes.SlIndexAt
import Derived.Shelf.Strings.Search2
import Derived.Test.YtjopgmjmjnfcjaaGreatDoorWWords
import Derived.Test.YtjopgmjmjnfcjaaGreatDoorWLast
import Derived.Test.YtjopgmjmjnfcjaaGreatDoorWTab
import Derived.Test.YtjopgmjmjnfcjaaGreatDoorWFour
import Derived.Test.YtjopgmjmjnfcjaaGreatDoorWQPut
import Derived.Test.YtjopgmjmjnfcjaaGreatDoorWApart
import Derived.Test.YtjopgmjmjnfcjaaGreatDoorWArr
import Derived.Test.YtjopgmjmjnfcjaaGreatDoorWZeros
import Derived.Test.YtjopgmjmjnfcjaaGreatDoorWFoot
import Derived.Test.YtjopgmjmjnfcjaaGreatDoorWKept
import Derived.Test.YtjopgmjmjnfcjaaGreatDoorWShare
import Derived.Test.YtjopgmjmjnfcjaaGreatDoorWN
import Derived.Test.YtjopgmjmjnfcjaaGreatDoorWFootNe
import Derived.Test.YtjopgmjmjnfcjaaGreatDoorWAt
import Derived.Test.YtjopgmjmjnfcjaaGreatDoorWEqStruct
import Derived.Test.YtjopgmjmjnfcjaaGreatDoorWRepsOne
import Derived.Test.YtjopgmjmjnfcjaaGreatDoorWInv
import Derived.Test.YtjopgmjmjnfcjaaGreatDoorWInvWords
import Derived.Test.YtjopgmjmjnfcjaaGreatDoorWGuard
import Derived.Test.YtjopgmjmjnfcjaaGreatDoorWNEv
import Derived.Test.YtjopgmjmjnfcjaaGreatDoorWMore
import Derived.Test.YtjopgmjmjnfcjaaGreatDoorWConv
import Derived.Test.YtjopgmjmjnfcjaaGreatDoorWAbbr
namespace Go.Proofs.YtjopgmjmjnfcjaaGreatDoor.PSubjectOf
open Go.RowKit Go.Proofs.YtjopgmjmjnfcjaaGreatDoorW.PrintWords Go.Proofs.YtjopgmjmjnfcjaaGreatDoorW.PrintLast
set_option linter.unusedVariables false
set_option linter.unusedSimpArgs false
def errW : Option Int → Value
  | none => .nilIface
  | some c => .iface 0 (.int .i64 c)
theorem errW_none : errW none = .nilIface := rfl
theorem errW_some (c : Int) : errW (some c) = .iface 0 (.int .i64 c) := rfl
theorem info2 : (Tryz.prog.info? 2).map (fun i => (i.zero, i.size, i.bytes)) = some (some (.int .i64 0), 1, 8) := by kernel_rfl
theorem info5 : (Tryz.prog.info? 5).map (fun i => (i.zero, i.size, i.bytes)) = some (some (.int .u8 0), 1, 1) := by kernel_rfl
theorem info70 : (Tryz.prog.info? 70).map (fun i => (i.zero, i.size, i.bytes)) = some (some (.agg #[(.string ⟨#[]⟩), (.string ⟨#[]⟩)]), 2, 32) := by kernel_rfl
structure S70 where
  f0 : ByteArray
  f1 : ByteArray
def z70 : S70 := ⟨(⟨#[]⟩ : ByteArray), (⟨#[]⟩ : ByteArray)⟩
def k70 : Kd S70 := Kd.iso (Kd.pair Kd.string Kd.string) (fun x : S70 => (x.f0, x.f1))
theorem k70_open {w : World} {x : S70} {cs : List Value} (h : k70.K w x cs) : cs = [.string x.f0, .string x.f1] := by
  obtain ⟨_, _, rfl, rfl, rfl⟩ := h
  exact rfl
theorem k70_openM {w : World} {base : Nat} {ok : Nat → Prop} {x : S70} {cs : List Value} (h : k70.M w base ok x cs) : cs = [.string x.f0, .string x.f1] := by
  obtain ⟨_, _, rfl, rfl, rfl⟩ := h
  exact rfl
theorem k70_mkM (w : World) (base : Nat) (ok : Nat → Prop) (x : S70)  : k70.M w base ok x [.string x.f0, .string x.f1] := ⟨[.string x.f0], [.string x.f1], rfl, rfl, rfl⟩
def rd_T70 (xs : List S70) (i : Int) : S70 := xs.getD i.toNat z70
theorem at_T70 {w : World} {A : Option Addr} {n : Nat} {xs : List S70} (h : Kd.C k70 w A n xs) (i : Int) (h0 : 0 ≤ i) (h1 : i < n) : ∃ ad , A = some ad ∧ w.cell? (ad.add (i.toNat * 2)) = some (.string (rd_T70 xs i).f0) ∧ w.cell? ⟨(ad.add (i.toNat * 2)).block, (ad.add (i.toNat * 2)).off + 1, none⟩ = some (.string (rd_T70 xs i).f1) := by
  obtain ⟨ad, c, e, _, hK, hc0⟩ := Kd.C_get h z70 i h0 h1
  have hc : ∀ j u, c[j]? = some u → w.cell? (ad.add (i.toNat * 2 + j)) = some u := hc0
  obtain rfl := k70_open hK
  exact ⟨ad, e, hc 0 _ rfl, by rw [← add_field _ _ 1 (by omega)]; exact hc 1 _ rfl⟩
theorem z0 {p a : Prop} (x0_ : a) (h : a → p := by intro x0_; first | (rw [x0_]; with_reducible exact H) | (have H2_ := (Option.bind_some _ _).symm.trans H; rw [x0_]; with_reducible exact H2_) | (have H2_ := (Option.bind_some _ _).symm.trans H; with_reducible exact H2_) | with_reducible exact H | (rw [x0_]; exact H) | exact H) : p := h x0_
theorem z1 {p : Prop} (h : p := by repeat (first | exact Drawn0.refl _ | apply Drawn0.step)) : p := h
theorem z2 {p a : Prop} (x0_ : a) (h : a → p := by intro x0_; repeat (first | exact (Kd.R_reads' x0_).2.2 | (with_reducible refine Kd.C_alloc ?_ _) | (with_reducible refine Kd.C_drewN ?_ _) | (with_reducible refine Kd.C_drew ?_))) : p := h x0_
theorem z3 {p : Prop} (h : p := by first | exact Kd.R_nil _ _ _ _ _ | exact Kd.N_nil _ _ _ _ _ | exact Kd.V_nil _ _ _ _ _ | exact Kd.Q_nil _ _ _ _ _ | exact Kd.S_nil _ _ _ _ _) : p := h
theorem z4 {p a : Prop} (x0_ : a) (h : a → p := by intro x0_; repeat (first | exact (Kd.C_below x0_ HB.out) | (with_reducible refine Kd.C_alloc ?_ _) | (with_reducible refine Kd.C_drewN ?_ _) | (with_reducible refine Kd.C_drew ?_))) : p := h x0_
theorem z5 {p : Prop} (h : p := by rw [if_neg (show ¬ (false = true) by decide)] at H; exact H) : p := h
theorem z6 {p a : Prop} (x0_ : a) (h : a → p := by intro x0_; (with_reducible repeat (first | apply Kd.R_alloc | apply Kd.R_drewN | apply Kd.R_drew)); exact Kd.R_mono x0_ (fun _ hk => hk.2)) : p := h x0_
theorem z7 {p a : Prop} (x0_ : a) (h : a → p := by intro x0_; (with_reducible repeat (first | refine blk_drewN ?_ _ | refine blk_drew ?_ | refine blk_alloc ?_ _)); refine blk_put (cs := #[.int .i64 2, .slice none 0 0]) ?_ 1 _ rfl; (with_reducible repeat (first | refine blk_drewN ?_ _ | refine blk_drew ?_ | refine blk_alloc ?_ _)); refine blk_put (cs := #[.int .i64 0, .slice none 0 0]) ?_ 0 _ rfl; (with_reducible repeat (first | refine blk_drewN ?_ _ | refine blk_drew ?_ | refine blk_alloc ?_ _)); exact x0_) : p := h x0_
theorem z8 {p : Prop} (h : p := by first | (go_simp; done) | (go_simp; rfl)) : p := h
theorem z9 {p a : Prop} (x0_ : a) (h : a → p := by intro x0_; (with_reducible repeat (first | apply Kd.R_alloc | apply Kd.R_drewN | apply Kd.R_drew)); exact Kd.R_mono x0_ (fun _ hk => trivial)) : p := h x0_
theorem z10 {p a : Prop} (x0_ : a) (h : a → p := by intro x0_; exact (by (with_reducible repeat (first | apply Kd.R_alloc | apply Kd.R_drewN | apply Kd.R_drew)); exact Kd.R_mono x0_ (fun _ hk => hk.2))) : p := h x0_
theorem z11 {p : Prop} (h : p := by rw [hg]; exact (below_size bB)) : p := h
theorem z12 {p a b : Prop} (x0_ : a) (x1_ : b) (h : a → b → p := by intro x0_ x1_; (with_reducible repeat (first | refine blk_drewN ?_ _ | refine blk_drew ?_ | refine blk_alloc ?_ _)); refine blk_far ?_ x0_ _; (with_reducible repeat (first | refine blk_drewN ?_ _ | refine blk_drew ?_ | refine blk_alloc ?_ _)); refine blk_far ?_ x0_ _; (with_reducible repeat (first | refine blk_drewN ?_ _ | refine blk_drew ?_ | refine blk_alloc ?_ _)); exact x1_) : p := h x0_ x1_
theorem z13 {p a : Prop} (x0_ : a) (h : a → p := by intro x0_; (with_reducible repeat (first | refine blk_drewN ?_ _ | refine blk_drew ?_ | refine blk_alloc ?_ _)); refine blk_put (cs := #[.string ((rd_T70 l0 x10_1).f0), .string (⟨#[]⟩ : ByteArray)]) ?_ 1 _ rfl; (with_reducible repeat (first | refine blk_drewN ?_ _ | refine blk_drew ?_ | refine blk_alloc ?_ _)); refine blk_put (cs := #[.string (⟨#[]⟩ : ByteArray), .string (⟨#[]⟩ : ByteArray)]) ?_ 0 _ rfl; (with_reducible repeat (first | refine blk_drewN ?_ _ | refine blk_drew ?_ | refine blk_alloc ?_ _)); exact x0_) : p := h x0_
theorem z14 {p : Prop} (h : p := by rw [if_pos rfl] at H; exact H) : p := h
theorem z15 {p a b : Prop} (x0_ : a) (x1_ : b) (h : a → b → p := by intro x0_ x1_; (with_reducible repeat (first | apply Kd.R_alloc | apply Kd.R_drewN | apply Kd.R_drew)); exact (Kd.R_mono (Kd.R_far (p := ⟨gb632, 1, none⟩) (Kd.R_far (p := ⟨gb632, 0, none⟩) (Kd.R_types x0_ x1_ (by decide)) (fun _ hk => hk.2) (.int .i64 t628)) (fun _ hk => hk.2) (.slice Ao84 t629.length co84)) (fun _ h_ => h_.1))) : p := h x0_ x1_
theorem z16 {p a b : Prop} (x0_ : a) (x1_ : b) (h : a → b → p := by intro x0_ x1_; (with_reducible repeat (first | apply Kd.R_alloc | apply Kd.R_drewN | apply Kd.R_drew)); exact (Kd.R_mono (Kd.R_far (p := ⟨gb613, 1, none⟩) (Kd.R_far (p := ⟨gb613, 0, none⟩) (Kd.R_types x0_ x1_ (by decide)) (fun _ hk => hk.2) (.int .i64 t609)) (fun _ hk => hk.2) (.slice Ao26 t610.length co26)) (fun _ h_ => h_.1))) : p := h x0_ x1_
theorem z17 {p a : Prop} (x0_ : a) (h : a → p := by intro x0_; (with_reducible repeat (first | refine blk_drewN ?_ _ | refine blk_drew ?_ | refine blk_alloc ?_ _)); refine blk_put (cs := #[.int .i64 0, .slice none 0 0]) ?_ 1 _ rfl; (with_reducible repeat (first | refine blk_drewN ?_ _ | refine blk_drew ?_ | refine blk_alloc ?_ _)); refine blk_put (cs := #[.int .i64 0, .slice none 0 0]) ?_ 0 _ rfl; (with_reducible repeat (first | refine blk_drewN ?_ _ | refine blk_drew ?_ | refine blk_alloc ?_ _)); exact x0_) : p := h x0_
theorem z18 {p : Prop} (h : p := by exact strings_SplitN.below HM_.out (by repeat (first | (with_reducible first | exact HB.out | apply below_alloc | apply pw_below_drewN | apply below_drew1) | exact HB.out))) : p := h
theorem z19 {p a : Prop} (x0_ : a) (h : a → p := by intro x0_; (with_reducible repeat (first | refine blk_drewN ?_ _ | refine blk_drew ?_ | refine blk_alloc ?_ _)); refine blk_put (cs := #[.int .i64 t473, .slice none 0 0]) ?_ 1 _ rfl; (with_reducible repeat (first | refine blk_drewN ?_ _ | refine blk_drew ?_ | refine blk_alloc ?_ _)); refine blk_put (cs := #[.int .i64 0, .slice none 0 0]) ?_ 0 _ rfl; (with_reducible repeat (first | refine blk_drewN ?_ _ | refine blk_drew ?_ | refine blk_alloc ?_ _)); exact x0_) : p := h x0_
theorem z20 {p a b : Prop} (x0_ : a) (x1_ : b) (h : a → b → p := by intro x0_ x1_; have := x0_; have := x1_; first | omega | exact Nat.le_refl _) : p := h x0_ x1_
theorem z21 {p a b : Prop} (x0_ : a) (x1_ : b) (h : a → b → p := by intro x0_ x1_; (with_reducible repeat (first | apply Kd.R_alloc | apply Kd.R_drewN | apply Kd.R_drew)); exact (Kd.R_mono (Kd.R_far (p := ⟨gb477, 1, none⟩) (Kd.R_far (p := ⟨gb477, 0, none⟩) (Kd.R_types x0_ x1_ (by decide)) (fun _ hk => hk.2) (.int .i64 t473)) (fun _ hk => hk.2) (.slice Ao48 t474.length co48)) (fun _ h_ => h_.1))) : p := h x0_ x1_
theorem z22 {p a b : Prop} (x0_ : a) (x1_ : b) (h : a → b → p := by intro x0_ x1_; (with_reducible repeat (first | apply Kd.R_alloc | apply Kd.R_drewN | apply Kd.R_drew)); exact (Kd.R_mono (Kd.R_far (p := ⟨gb477, 1, none⟩) (Kd.R_far (p := ⟨gb477, 0, none⟩) (Kd.R_types x0_ x1_ (by decide)) (fun _ hk => hk.2) (.int .i64 t473)) (fun _ hk => hk.2) (.slice Ao60 t474.length co60)) (fun _ h_ => h_.1))) : p := h x0_ x1_
theorem z23 {p a b : Prop} (x0_ : a) (x1_ : b) (h : a → b → p := by intro x0_ x1_; (with_reducible repeat (first | apply Kd.R_alloc | apply Kd.R_drewN | apply Kd.R_drew)); exact (Kd.R_mono (Kd.R_far (p := ⟨gb477, 1, none⟩) (Kd.R_far (p := ⟨gb477, 0, none⟩) (Kd.R_types x0_ x1_ (by decide)) (fun _ hk => hk.2) (.int .i64 t473)) (fun _ hk => hk.2) (.slice Ao36 t474.length co36)) (fun _ h_ => h_.1))) : p := h x0_ x1_
theorem z24 {p : Prop} (h : p := by rw [hg]; exact Nat.ne_of_gt (blk_lt (g := gb467) (o := .cells #[.int .i64 t465, .int .i64 t466] 101 (0, 0)) (bL BK467))) : p := h
theorem z25 {p : Prop} (h : p := by rw [hg]; exact Nat.ne_of_lt (blk_lt (g := gb467) (o := .cells #[.int .i64 t465, .int .i64 t466] 101 (0, 0)) (bL BK467))) : p := h
theorem z26 {p a b c : Prop} (x0_ : a) (x1_ : b) (x2_ : c) (h : a → b → c → p := by intro x0_ x1_ x2_; repeat (first | (with_reducible first | exact HB.out | apply below_alloc | apply pw_below_drewN | apply below_drew1 | refine below_set ?_ x0_ | refine below_set ?_ x1_ | refine below_set ?_ x2_) | exact HB.out)) : p := h x0_ x1_ x2_
theorem z27 {p a : Prop} (x0_ : a) (h : a → p := by intro x0_; have := x0_; first | omega | exact Nat.le_refl _) : p := h x0_
theorem z28 {p a : Prop} (x0_ : a) (h : a → p := by intro x0_; repeat (first | exact x0_ | (with_reducible refine Kd.C_alloc ?_ _) | (with_reducible refine Kd.C_drewN ?_ _) | (with_reducible refine Kd.C_drew ?_))) : p := h x0_
theorem z29 {p : Prop} (h : p := by first | omega | exact Nat.le_refl _) : p := h
theorem z30 {p a b : Prop} (x0_ : a) (x1_ : b) (h : a → b → p := by intro x0_ x1_; (with_reducible repeat (first | apply Kd.R_alloc | apply Kd.R_drewN | apply Kd.R_drew)); exact (Kd.R_mono (Kd.R_far (p := ⟨gb605, 1, none⟩) (Kd.R_far (p := ⟨gb605, 0, none⟩) (Kd.R_types x0_ x1_ (by decide)) (fun _ hk => hk.2) (.int .i64 t601)) (fun _ hk => hk.2) (.slice Ao19 t602.length co19)) (fun _ h_ => h_.1))) : p := h x0_ x1_
theorem z31 {p : Prop} (h : p := by simp only [putAll, Act.put, List.setIfInBounds_toArray, List.set_cons_zero, List.set_cons_succ]) : p := h
theorem z32 {p a : Prop} (x0_ : a) (h : a → p := by intro x0_; (with_reducible repeat (first | apply Kd.R_alloc | apply Kd.R_drewN | apply Kd.R_drew)); exact Kd.R_mono x0_ (fun _ hk => ⟨trivial, hk⟩)) : p := h x0_
theorem z33 {p : Prop} (h : p := by have h_ := of_decide_eq_true (show decide ((wrap64 (x6_1 + x7_7)) ≤ (l0.length : Int)) = true by assumption); rw [List.length_drop, List.length_take]; omega) : p := h
theorem z34 {p a : Prop} (x0_ : a) (h : a → p := by intro x0_; (with_reducible repeat (first | apply Kd.V_alloc | apply Kd.V_drewN | apply Kd.V_drew)); exact x0_) : p := h x0_
theorem z35 {p : Prop} (h : p := by first | rfl | (simp [errW_none, errW_some] <;> rfl) | (simp only [← hji32, ← hji37, ← hji41]; first | rfl | (simp [errW_none, errW_some] <;> rfl)) | (simp [*, errW_none, errW_some] <;> rfl)) : p := h
theorem z36 {p : Prop} (h : p := by rw [hg]; exact (below_size (bG GE467))) : p := h
theorem z37 {p : Prop} (h : p := by have : (0 : Int) < ((strOfNums ((l0.take ((wrap64 (x6_1 + x7_7)) : Int).toNat).drop (x6_1 : Int).toNat)).size : Int) := pI; omega) : p := h
theorem z38 {p : Prop} (h : p := by first | rfl | (simp [errW_none, errW_some] <;> rfl) | (simp only [← hji26]; first | rfl | (simp [errW_none, errW_some] <;> rfl)) | (simp [*, errW_none, errW_some] <;> rfl)) : p := h
theorem z39 {p : Prop} (h : p := by have h_ := of_decide_eq_true (show decide (t313 ≤ (l0.length : Int)) = true by assumption); rw [List.length_drop, List.length_take]; omega) : p := h
theorem z40 {p : Prop} (h : p := by repeat (first | (with_reducible first | exact HB.out | apply below_alloc | apply pw_below_drewN | apply below_drew1) | exact HB.out)) : p := h
theorem z41 {p : Prop} (h : p := by rw [hg]; exact Nat.ne_of_lt (blk_lt (g := gb585) (o := .cells #[.int .i64 a0_0, .slice A0_1 l0_1.length c0_1] 25 (0, 0)) (bL BK585))) : p := h
theorem z42 {p : Prop} (h : p := by rw [hg]; exact Nat.ne_of_gt (blk_lt (g := gb585) (o := .cells #[.int .i64 a0_0, .slice A0_1 l0_1.length c0_1] 25 (0, 0)) (bL BK585))) : p := h
theorem z43 {p a b c d e : Prop} (x0_ : a) (x1_ : b) (x2_ : c) (x3_ : d) (x4_ : e) (h : a → b → c → d → e → p := by intro x0_ x1_ x2_ x3_ x4_; have := x0_; have := x1_; have := x2_; have := x3_; have := x4_; first | omega | exact Nat.le_refl _) : p := h x0_ x1_ x2_ x3_ x4_
theorem z44 {p a : Prop} (x0_ : a) (h : a → p := by intro x0_; (try simp only [hl3_1]); (with_reducible repeat (first | apply Kd.R_alloc | apply Kd.R_drewN | apply Kd.R_drew)); exact x0_) : p := h x0_
theorem z45 {p : Prop} (h : p := by rw [hg]; exact Nat.ne_of_lt (blk_lt (g := gb570) (o := .cells #[.int .i64 0, .slice none 0 0] 25 (0, 0)) (bL BK570))) : p := h
theorem z46 {p : Prop} (h : p := by rw [← hq_]; exact (bR HO_3)) : p := h
theorem z47 {p : Prop} (h : p := by rw [hg]; exact Nat.ne_of_gt (blk_lt (g := gb570) (o := .cells #[.int .i64 0, .slice none 0 0] 25 (0, 0)) (bL BK570))) : p := h
theorem z48 {p a : Prop} (x0_ : a) (h : a → p := by intro x0_; rw [hw]; exact below_set (HB.out) x0_) : p := h x0_
theorem z49 {p a b c : Prop} (x0_ : a) (x1_ : b) (x2_ : c) (h : a → b → c → p := by intro x0_ x1_ x2_; have := x0_; have := x1_; have := x2_; omega) : p := h x0_ x1_ x2_
theorem z50 {p a : Prop} (x0_ : a) (h : a → p := by intro x0_; rw [impl_baseText.four_take _ _ _ (by omega), ← List.append_assoc, HDK.out]; exact x0_) : p := h x0_
theorem z51 {p a b c : Prop} (x0_ : a) (x1_ : b) (x2_ : c) (h : a → b → c → p := by intro x0_ x1_ x2_; have := x0_; have := x1_; have := x2_; first | omega | exact Nat.le_refl _) : p := h x0_ x1_ x2_
theorem z52 {p : Prop} (h : p := by first | rfl | (simp; done) | (simp only [← hji8] <;> (first | rfl | simp)) | (simp [*]; done)) : p := h
theorem z53 {p : Prop} (h : p := by rw [hg]; exact (below_size (bG2 GE467 GE477))) : p := h
theorem z54 {p : Prop} (h : p := by rw [hg]; exact (below_size (bG GE570))) : p := h
theorem z55 {p : Prop} (h : p := by rw [hg]; exact (below_size (bG GE585))) : p := h
theorem z56 {p : Prop} (h : p := by first | simpa using c3 | (simp at c3 ⊢; omega)) : p := h
end Go.Proofs.YtjopgmjmjnfcjaaGreatDoor.PSubjectOf
