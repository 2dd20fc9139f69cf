/- Part of the proof; words that it uses. -/
import Derived.Test.YtecpanfndodjgaaDoorPPartAtx0
import Derived.Test.YtecpanfndodjgaaDoorPPartAtx6
namespace Go.Proofs.YtecpanfndodjgaaDoor.PPartAt
open Go.RowKit Go.Proofs.YtecpanfndodjgaaDoorW.PrintWords Go.Proofs.YtecpanfndodjgaaDoorW.PrintLast Go.Proofs.YtecpanfndodjgaaDoorW.PrintMore
attribute [local go_sem] max2_int max_two
set_option linter.unusedVariables false
set_option linter.unusedSimpArgs false
open Go.Shelf in
def stringslite_Index.sh_lays219_ren : Go.Shelf.Ren := ⟨fun | 219 => 152 | 217 => 155 | 225 => 149 | 224 => 119 | 267 => 157 | 266 => 158 | 314 => 159 | n => n, fun | 9 => 9 | 3 => 3 | 4 => 4 | 5 => 5 | 46 => 142 | 146 => 156 | 51 => 155 | n => n, fun | 1 => 0 | n => n⟩
open Go.Shelf in
theorem stringslite_Index.sh_lays219 : Go.Proofs.Lays.n219 Tryd.prog stringslite_Index.sh_lays219_ren := {
  mixed := by kernel_rfl
  f217 := Tryd.func155.trans (congrArg some (by kernel_rfl))
  f219 := Tryd.func152.trans (congrArg some (by kernel_rfl))
  f224 := Tryd.func119.trans (congrArg some (by kernel_rfl))
  f225 := Tryd.func149.trans (congrArg some (by kernel_rfl))
  f266 := Tryd.func158.trans (congrArg some (by kernel_rfl))
  f267 := Tryd.func157.trans (congrArg some (by kernel_rfl))
  f314 := Tryd.func159.trans (congrArg some (by kernel_rfl))
  t3 := Tryd.underlying3
  a3 := Tryd.isAgg3
  z3 := Tryd.sizeOf3
  v3 := Tryd.zeroValue3
  t4 := Tryd.underlying4
  a4 := Tryd.isAgg4
  z4 := Tryd.sizeOf4
  v4 := Tryd.zeroValue4
  t5 := Tryd.underlying5
  a5 := Tryd.isAgg5
  z5 := Tryd.sizeOf5
  v5 := Tryd.zeroValue5
  t9 := Tryd.underlying9
  a9 := Tryd.isAgg9
  z9 := Tryd.sizeOf9
  v9 := Tryd.zeroValue9
  t46 := Tryd.underlying142
  a46 := Tryd.isAgg142
  z46 := Tryd.sizeOf142
  v46 := Tryd.zeroValue142
  t51 := Tryd.underlying155
  a51 := Tryd.isAgg155
  z51 := Tryd.sizeOf155
  v51 := Tryd.zeroValue155
  t146 := Tryd.underlying156
  a146 := Tryd.isAgg156
  z146 := Tryd.sizeOf156
  v146 := Tryd.zeroValue156
  g1 := by kernel_rfl }
open Go.Shelf in
open Go.RowKit Go.Lib in
theorem stringslite_Index.sh_stringslite_Index_one (s : ByteArray) (c : UInt8) (w : World) :
    Calls Tryd.prog 152 #[.string s, .string ⟨#[c]⟩] w fun e w' => e = .returned (.int .i64 (Lib.indexByte s.data.toList c)) ∧ w' = w := Any.stringslite_Index_one stringslite_Index.sh_lays219 s c w
def stringslite_Index.f (a0 : ByteArray) (a1 : ByteArray) : Option Int := if a1.size = 1 then some (Lib.indexByte a0.data.toList (bt a1 0).toNat.toUInt8) else none
theorem stringslite_Index.one (a : ByteArray) (h : a.size = 1) : a = ⟨#[(bt a 0).toNat.toUInt8]⟩ := by
  match a, h with
  | ⟨⟨[c]⟩⟩, _ =>
    have : (bt (⟨⟨[c]⟩⟩ : ByteArray) 0).toNat.toUInt8 = c := by
      show ((c.toNat : Int)).toNat.toUInt8 = c
      simp
    rw [this]
theorem stringslite_Index.calls (a0 : ByteArray) (a1 : ByteArray) (r : Int) (w : World) (h : stringslite_Index.f a0 a1 = some r) :
    Calls Tryd.prog 152 #[.string a0, .string a1] w fun e w' => e = .returned (.int .i64 r) ∧ Drawn0 w w' := by
  unfold stringslite_Index.f at h
  by_cases h1 : a1.size = 1
  · rw [if_pos h1] at h
    cases h
    have e := stringslite_Index.one a1 h1
    have hc := stringslite_Index.sh_stringslite_Index_one a0 (bt a1 0).toNat.toUInt8 w
    rw [← e] at hc
    refine hc.mono ?_
    rintro e w' ⟨rfl, rfl⟩
    exact ⟨rfl, Drawn0.refl _⟩
  rw [if_neg h1] at h
  cases h
def stringslite_Cut.f (a0 : ByteArray) (a1 : ByteArray) : Option (ByteArray × ByteArray × Bool) := (stringslite_Index.f a0 a1).bind fun t335 => (if t335 ≥ 0 then (if 0 ≤ t335 then (if t335 ≤ (a0.size : Int) then (if 0 ≤ (wrap64 (t335 + (a1.size : Int))) then (if (wrap64 (t335 + (a1.size : Int))) ≤ (a0.size : Int) then (some (a0.extract 0 (t335 : Int).toNat, a0.extract ((wrap64 (t335 + (a1.size : Int))) : Int).toNat a0.size, true)) else (none)) else (none)) else (none)) else (none)) else (some (a0, (⟨#[]⟩ : ByteArray), false)))
set_option maxHeartbeats 8000000 in
set_option maxRecDepth 100000 in
theorem stringslite_Cut.calls (a0 : ByteArray) (a1 : ByteArray) (r1 : ByteArray) (r2 : ByteArray) (r3 : Bool) (w : World) (h : stringslite_Cut.f a0 a1 = some (r1, r2, r3)) :
  Calls Tryd.prog 144 #[.string a0, .string a1] w fun e w' => e = .returned (.tuple #[.string r1, .string r2, .bool r3]) ∧ Drawn0 w w' := by
 have H : ((stringslite_Index.f a0 a1).bind fun t335 => (if t335 ≥ 0 then (if 0 ≤ t335 then (if t335 ≤ (a0.size : Int) then (if 0 ≤ (wrap64 (t335 + (a1.size : Int))) then (if (wrap64 (t335 + (a1.size : Int))) ≤ (a0.size : Int) then (some (a0.extract 0 (t335 : Int).toNat, a0.extract ((wrap64 (t335 + (a1.size : Int))) : Int).toNat a0.size, true)) else (none)) else (none)) else (none)) else (none)) else (some (a0, (⟨#[]⟩ : ByteArray), false)))) = some (r1, r2, r3) := h
 clear h
 replace H := Option.bind_eq_some_iff.mp H
 obtain ⟨t335, A30, H⟩ := H
 replace H : (if t335 ≥ 0 then (if 0 ≤ t335 then (if t335 ≤ (a0.size : Int) then (if 0 ≤ (wrap64 (t335 + (a1.size : Int))) then (if (wrap64 (t335 + (a1.size : Int))) ≤ (a0.size : Int) then (some (a0.extract 0 (t335 : Int).toNat, a0.extract ((wrap64 (t335 + (a1.size : Int))) : Int).toNat a0.size, true)) else (none)) else (none)) else (none)) else (none)) else (some (a0, (⟨#[]⟩ : ByteArray), false))) = some (r1, r2, r3) := H
 have A3 := aM A30
 clear A30
 by_cases c4 : t335 ≥ 0
 ·rw [if_pos c4] at H
  have c4b0 : decide (0 ≤ t335) = true := decide_eq_true c4
  clear c4
  by_cases c5 : 0 ≤ t335
  ·rw [if_pos c5] at H
   have c5b0 := eq_true c5
   have c5b1 : decide (0 ≤ t335) = true := decide_eq_true c5
   clear c5
   by_cases c6 : t335 ≤ (a0.size : Int)
   ·rw [if_pos c6] at H
    have c6b0 := eq_true c6
    have c6b1 : decide (t335 ≤ (a0.size : Int)) = true := decide_eq_true c6
    clear c6
    obtain ⟨ji7, hji7⟩ : ∃ j_ : Int, (wrap64 (t335 + (a1.size : Int))) = j_ := ⟨_, rfl⟩
    replace H : (if 0 ≤ (ji7) then (if (ji7) ≤ (a0.size : Int) then (some (a0.extract 0 (t335 : Int).toNat, a0.extract ((ji7) : Int).toNat a0.size, true)) else (none)) else (none)) = some (r1, r2, r3) := by first | (rw [hji7] at H; exact H) | (simp only [hji7] at H ⊢; exact H)
    (try rw [hji7] at A3)
    have hji7w : (IntKind.i64.wrap (t335 + (a1.size : Int))) = ji7 := (i64_w _).trans hji7
    by_cases c8 : 0 ≤ (ji7)
    ·rw [if_pos c8] at H
     have c8b0 := eq_true c8
     have c8b1 : decide (0 ≤ (ji7)) = true := decide_eq_true c8
     clear c8
     by_cases c9 : (ji7) ≤ (a0.size : Int)
     ·rw [if_pos c9] at H
      have c9b0 := eq_true c9
      have c9b1 : decide ((ji7) ≤ (a0.size : Int)) = true := decide_eq_true c9
      clear c9
      simp only [Option.some.injEq, Prod.mk.injEq] at H
      obtain ⟨rfl, rfl, rfl⟩ := H
      go_enter Tryd.func144, Tryd.ntmps144
      iterate 8 (go_wp2_with (first | (go_at_call 152; (with_reducible refine (stringslite_Index.calls a0 a1 t335 _ A3.out).mono ?_); rintro e w' ⟨rfl, ⟨nd, rfl⟩⟩; (try first | exact ⟨rfl, _, World.drewN_drewN _ _ _⟩ | exact ⟨rfl, _, Eq.trans (World.drewN_drewN _ _ _) (congrArg (World.drewN _) (Nat.add_assoc _ _ _))⟩))); try go_quiet (first | (go_at_call 152; (with_reducible refine (stringslite_Index.calls a0 a1 t335 _ A3.out).mono ?_); rintro e w' ⟨rfl, ⟨nd, rfl⟩⟩; (try first | exact ⟨rfl, _, World.drewN_drewN _ _ _⟩ | exact ⟨rfl, _, Eq.trans (World.drewN_drewN _ _ _) (congrArg (World.drewN _) (Nat.add_assoc _ _ _))⟩))))
      go_ret3
      exact ⟨by first | rfl | (simp; done) | (simp only [← hji7] <;> (first | rfl | simp)) | (simp [*]; done), zz5⟩
     rw [if_neg c9] at H
     exact absurd H (by simp)
    rw [if_neg c8] at H
    exact absurd H (by simp)
   rw [if_neg c6] at H
   exact absurd H (by simp)
  rw [if_neg c5] at H
  exact absurd H (by simp)
 rw [if_neg c4] at H
 have c4b0 : decide (0 ≤ t335) = false := decide_eq_false c4
 clear c4
 simp only [Option.some.injEq, Prod.mk.injEq] at H
 obtain ⟨rfl, rfl, rfl⟩ := H
 go_enter Tryd.func144, Tryd.ntmps144
 iterate 8 (go_wp2_with (first | (go_at_call 152; (with_reducible refine (stringslite_Index.calls a0 a1 t335 _ A3.out).mono ?_); rintro e w' ⟨rfl, ⟨nd, rfl⟩⟩; (try first | exact ⟨rfl, _, World.drewN_drewN _ _ _⟩ | exact ⟨rfl, _, Eq.trans (World.drewN_drewN _ _ _) (congrArg (World.drewN _) (Nat.add_assoc _ _ _))⟩))); try go_quiet (first | (go_at_call 152; (with_reducible refine (stringslite_Index.calls a0 a1 t335 _ A3.out).mono ?_); rintro e w' ⟨rfl, ⟨nd, rfl⟩⟩; (try first | exact ⟨rfl, _, World.drewN_drewN _ _ _⟩ | exact ⟨rfl, _, Eq.trans (World.drewN_drewN _ _ _) (congrArg (World.drewN _) (Nat.add_assoc _ _ _))⟩))))
 go_ret3
 exact ⟨bS, zz5⟩
def strings_Cut.f (a0 : ByteArray) (a1 : ByteArray) : Option (ByteArray × ByteArray × Bool) := (stringslite_Cut.f a0 a1).bind fun bt336 => (some (bt336.1, bt336.2.1, bt336.2.2))
set_option maxHeartbeats 8000000 in
set_option maxRecDepth 100000 in
theorem strings_Cut.calls (a0 : ByteArray) (a1 : ByteArray) (r1 : ByteArray) (r2 : ByteArray) (r3 : Bool) (w : World) (h : strings_Cut.f a0 a1 = some (r1, r2, r3)) :
  Calls Tryd.prog 133 #[.string a0, .string a1] w fun e w' => e = .returned (.tuple #[.string r1, .string r2, .bool r3]) ∧ Drawn0 w w' := by
 have H : ((stringslite_Cut.f a0 a1).bind fun bt336 => (some (bt336.1, bt336.2.1, bt336.2.2))) = some (r1, r2, r3) := h
 clear h
 replace H := Option.bind_eq_some_iff.mp H
 obtain ⟨⟨t336, t337, t338⟩, A30, H⟩ := H
 replace H : (some (t336, t337, t338)) = some (r1, r2, r3) := H
 have A3 := aM A30
 clear A30
 simp only [Option.some.injEq, Prod.mk.injEq] at H
 obtain ⟨rfl, rfl, rfl⟩ := H
 go_enter Tryd.func133, Tryd.ntmps133
 go_wp2_with (first | ((with_reducible refine gate_callee (f := 144) rfl ?_); refine gL_ (some 9) Tryd.func144 #[.string a0, .string a1] ?_; (with_reducible refine (stringslite_Cut.calls a0 a1 t336 t337 t338 _ A3.out).mono ?_); rintro e w' ⟨rfl, ⟨nd, rfl⟩⟩; refine ⟨_, rfl, ?_⟩))
 go_ret3
 exact ⟨bS, zz5⟩
def stringslite_TrimPrefix.f (a0 : ByteArray) (a1 : ByteArray) : Option (ByteArray) := (stringslite_HasPrefix.f a0 a1).bind fun t339 => (if t339 = true then (if 0 ≤ (a1.size : Int) then (if (a1.size : Int) ≤ (a0.size : Int) then (some (a0.extract ((a1.size : Int) : Int).toNat a0.size)) else (none)) else (none)) else (some a0))
set_option maxHeartbeats 8000000 in
set_option maxRecDepth 100000 in
theorem stringslite_TrimPrefix.calls (a0 : ByteArray) (a1 : ByteArray) (r : ByteArray) (w : World) (h : stringslite_TrimPrefix.f a0 a1 = some r) :
  Calls Tryd.prog 145 #[.string a0, .string a1] w fun e w' => e = .returned (.string r) ∧ Drawn0 w w' := by
 have H : ((stringslite_HasPrefix.f a0 a1).bind fun t339 => (if t339 = true then (if 0 ≤ (a1.size : Int) then (if (a1.size : Int) ≤ (a0.size : Int) then (some (a0.extract ((a1.size : Int) : Int).toNat a0.size)) else (none)) else (none)) else (some a0))) = some r := h
 clear h
 replace H := Option.bind_eq_some_iff.mp H
 obtain ⟨t339, A30, H⟩ := H
 replace H : (if t339 = true then (if 0 ≤ (a1.size : Int) then (if (a1.size : Int) ≤ (a0.size : Int) then (some (a0.extract ((a1.size : Int) : Int).toNat a0.size)) else (none)) else (none)) else (some a0)) = some r := H
 have A3 := aM A30
 clear A30
 by_cases c4 : t339 = true
 ·subst c4
  have H1 : (if 0 ≤ (a1.size : Int) then (if (a1.size : Int) ≤ (a0.size : Int) then (some (a0.extract ((a1.size : Int) : Int).toNat a0.size)) else (none)) else (none)) = some r := zz29
  clear H
  have H := H1
  clear H1
  by_cases c5 : 0 ≤ (a1.size : Int)
  ·rw [if_pos c5] at H
   have c5b0 := eq_true c5
   have c5b1 : decide (0 ≤ (a1.size : Int)) = true := decide_eq_true c5
   clear c5
   by_cases c6 : (a1.size : Int) ≤ (a0.size : Int)
   ·rw [if_pos c6] at H
    have c6b0 := eq_true c6
    have c6b1 : decide ((a1.size : Int) ≤ (a0.size : Int)) = true := decide_eq_true c6
    clear c6
    obtain rfl := Option.some.inj H
    go_enter Tryd.func145, Tryd.ntmps145
    go_wp2_with (first | ((with_reducible refine gate_callee (f := 80) rfl ?_); refine gL_ (some 7) Tryd.func80 #[.string a0, .string a1] ?_; (with_reducible refine (stringslite_HasPrefix.calls a0 a1 true _ A3.out).mono ?_); rintro e w' ⟨rfl, ⟨nd, rfl⟩⟩; refine ⟨_, rfl, ?_⟩))
    go_ret
    exact ⟨bS, zz5⟩
   rw [if_neg c6] at H
   exact absurd H (by simp)
  rw [if_neg c5] at H
  exact absurd H (by simp)
 replace c4 := Bool.eq_false_iff.mpr c4
 subst c4
 have H1 : (some a0) = some r := zz15
 clear H
 have H := H1
 clear H1
 obtain rfl := Option.some.inj H
 go_enter Tryd.func145, Tryd.ntmps145
 go_wp2_with (first | ((with_reducible refine gate_callee (f := 80) rfl ?_); refine gL_ (some 7) Tryd.func80 #[.string a0, .string a1] ?_; (with_reducible refine (stringslite_HasPrefix.calls a0 a1 false _ A3.out).mono ?_); rintro e w' ⟨rfl, ⟨nd, rfl⟩⟩; refine ⟨_, rfl, ?_⟩))
 go_ret
 exact ⟨bS, zz5⟩
def strings_TrimPrefix.f (a0 : ByteArray) (a1 : ByteArray) : Option (ByteArray) := (stringslite_TrimPrefix.f a0 a1).bind fun t340 => (some t340)
set_option maxHeartbeats 8000000 in
set_option maxRecDepth 100000 in
theorem strings_TrimPrefix.calls (a0 : ByteArray) (a1 : ByteArray) (r : ByteArray) (w : World) (h : strings_TrimPrefix.f a0 a1 = some r) :
  Calls Tryd.prog 134 #[.string a0, .string a1] w fun e w' => e = .returned (.string r) ∧ Drawn0 w w' := by
 have H : ((stringslite_TrimPrefix.f a0 a1).bind fun t340 => (some t340)) = some r := h
 clear h
 replace H := Option.bind_eq_some_iff.mp H
 obtain ⟨t340, A30, H⟩ := H
 replace H : (some t340) = some r := H
 have A3 := aM A30
 clear A30
 obtain rfl := Option.some.inj H
 go_enter Tryd.func134, Tryd.ntmps134
 go_wp2_with (first | ((with_reducible refine gate_callee (f := 145) rfl ?_); refine gL_ (some 7) Tryd.func145 #[.string a0, .string a1] ?_; (with_reducible refine (stringslite_TrimPrefix.calls a0 a1 t340 _ A3.out).mono ?_); rintro e w' ⟨rfl, ⟨nd, rfl⟩⟩; refine ⟨_, rfl, ?_⟩))
 go_ret
 exact ⟨bS, zz5⟩
def impl_isLetter.f (a0 : Int) : Option (Bool) := if a0 ≥ 97 then (if a0 ≤ 122 then (some true) else (if a0 ≥ 65 then (some (decide (a0 ≤ 90))) else (some false))) else (if a0 ≥ 65 then (some (decide (a0 ≤ 90))) else (some false))
set_option maxHeartbeats 8000000 in
set_option maxRecDepth 100000 in
theorem impl_isLetter.calls (a0 : Int) (r : Bool) (w : World) (h : impl_isLetter.f a0 = some r) :
  Calls Tryd.prog 153 #[.int .u8 a0] w fun e w' => e = .returned (.bool r) ∧ Drawn0 w w' := by
 have H : (if a0 ≥ 97 then (if a0 ≤ 122 then (some true) else (if a0 ≥ 65 then (some (decide (a0 ≤ 90))) else (some false))) else (if a0 ≥ 65 then (some (decide (a0 ≤ 90))) else (some false))) = some r := h
 clear h
 by_cases c2 : a0 ≥ 97
 ·rw [if_pos c2] at H
  have c2b0 : decide (97 ≤ a0) = true := decide_eq_true c2
  clear c2
  by_cases c3 : a0 ≤ 122
  ·rw [if_pos c3] at H
   have c3b0 : decide (a0 ≤ 122) = true := decide_eq_true c3
   clear c3
   obtain rfl := Option.some.inj H
   go_enter Tryd.func153, Tryd.ntmps153
   go_wp2
   go_ret
   exact ⟨bS, zz5⟩
  rw [if_neg c3] at H
  have c3b0 : decide (a0 ≤ 122) = false := decide_eq_false c3
  clear c3
  by_cases c4 : a0 ≥ 65
  ·rw [if_pos c4] at H
   have c4b0 : decide (65 ≤ a0) = true := decide_eq_true c4
   clear c4
   obtain rfl := Option.some.inj H
   go_enter Tryd.func153, Tryd.ntmps153
   go_wp2
   go_ret
   exact ⟨bS, zz5⟩
  rw [if_neg c4] at H
  have c4b0 : decide (65 ≤ a0) = false := decide_eq_false c4
  clear c4
  obtain rfl := Option.some.inj H
  go_enter Tryd.func153, Tryd.ntmps153
  go_wp2
  go_ret
  exact ⟨bS, zz5⟩
 rw [if_neg c2] at H
 have c2b0 : decide (97 ≤ a0) = false := decide_eq_false c2
 clear c2
 by_cases c5 : a0 ≥ 65
 ·rw [if_pos c5] at H
  have c5b0 : decide (65 ≤ a0) = true := decide_eq_true c5
  clear c5
  obtain rfl := Option.some.inj H
  go_enter Tryd.func153, Tryd.ntmps153
  go_wp2
  go_ret
  exact ⟨bS, zz5⟩
 rw [if_neg c5] at H
 have c5b0 : decide (65 ≤ a0) = false := decide_eq_false c5
 clear c5
 obtain rfl := Option.some.inj H
 go_enter Tryd.func153, Tryd.ntmps153
 go_wp2
 go_ret
 exact ⟨bS, zz5⟩
def impl_isDigit.f (a0 : Int) : Option (Bool) := if a0 ≥ 48 then (some (decide (a0 ≤ 57))) else (some false)
set_option maxHeartbeats 8000000 in
set_option maxRecDepth 100000 in
theorem impl_isDigit.calls (a0 : Int) (r : Bool) (w : World) (h : impl_isDigit.f a0 = some r) :
  Calls Tryd.prog 154 #[.int .u8 a0] w fun e w' => e = .returned (.bool r) ∧ Drawn0 w w' := by
 have H : (if a0 ≥ 48 then (some (decide (a0 ≤ 57))) else (some false)) = some r := h
 clear h
 by_cases c2 : a0 ≥ 48
 ·rw [if_pos c2] at H
  have c2b0 : decide (48 ≤ a0) = true := decide_eq_true c2
  clear c2
  obtain rfl := Option.some.inj H
  go_enter Tryd.func154, Tryd.ntmps154
  go_wp2
  go_ret
  exact ⟨bS, zz5⟩
 rw [if_neg c2] at H
 have c2b0 : decide (48 ≤ a0) = false := decide_eq_false c2
 clear c2
 obtain rfl := Option.some.inj H
 go_enter Tryd.func154, Tryd.ntmps154
 go_wp2
 go_ret
 exact ⟨bS, zz5⟩
mutual
def impl_isField.l0 : Nat → Int → Int → ByteArray → ByteArray → Option (Bool)
 | 0, _, _, _, _ => none
 | k + 1, x9, x10, x342000, x342001 => if x10 < x9 then (if 0 ≤ x10 then (if x10 < (x342000.size : Int) then ((impl_isLetter.f (bt x342000 x10)).bind fun t342 => (if t342 = true then (impl_isField.l0 k x9 (wrap64 (x10 + 1)) x342000 x342001) else ((impl_isDigit.f (bt x342000 x10)).bind fun t343 => (if t343 = true then (impl_isField.l0 k x9 (wrap64 (x10 + 1)) x342000 x342001) else (if (bt x342000 x10) = 45 then (impl_isField.l0 k x9 (wrap64 (x10 + 1)) x342000 x342001) else (some false)))))) else (none)) else (none)) else (impl_isField.l1 k (x342001.size : Int) 0 x342000 x342001)
def impl_isField.l1 : Nat → Int → Int → ByteArray → ByteArray → Option (Bool)
 | 0, _, _, _, _ => none
 | k + 1, x32, x33, x342000, x342001 => if x33 < x32 then (if 0 ≤ x33 then (if x33 < (x342001.size : Int) then (if (bt x342001 x33) < 32 then (some false) else (if (bt x342001 x33) = 127 then (some false) else (impl_isField.l1 k x32 (wrap64 (x33 + 1)) x342000 x342001))) else (none)) else (none)) else (if (x342000.size : Int) ≥ 1 then (if (x342000.size : Int) ≤ 30 then (some (decide ((x342001.size : Int) ≤ 120))) else (some false)) else (some false))
end
def impl_isField.f (k : Nat) (a0_0 : ByteArray) (a0_1 : ByteArray) : Option (Bool) := impl_isField.l0 k (a0_0.size : Int) 0 a0_0 a0_1
set_option maxHeartbeats 8000000 in
set_option maxRecDepth 100000 in
theorem impl_isField.calls (k : Nat) (a0_0 : ByteArray) (a0_1 : ByteArray) (r : Bool) (w : World) (h : impl_isField.f k a0_0 a0_1 = some r) :
  Calls Tryd.prog 146 #[.agg #[.string a0_0, .string a0_1]] w fun e w' => e = .returned (.bool r) ∧ Below w.heap.size w w' := by
 have hu151 := Tryd.underlying151
 have HB := aM (Below.refl w.heap.size w)
 have H : (impl_isField.l0 k (a0_0.size : Int) 0 a0_0 a0_1) = some r := h
 clear h
 have H' := aM H
 clear H
 go_enter Tryd.func146, Tryd.ntmps146
 go_wp2_with (first | ((with_reducible refine gate_dst (N := 1) rfl ?_); (try (refine gate_guard (by rfl) ?_; dsimp only)); refine box_event ?hg (N := 1) ?hd (cs := #[.string a0_0, .string a0_1]) (t := 151) ?hr ?_; (case hd => rfl); (case hg => rfl); (case hr => exact zz13); intro gb341 hg w2 hbox hb; have BK341 := aM (hbox); have GW341 := aM ((zz18 : w.heap.size ≤ gb341)); have GE341 := aM ((zz18 : w.heap.size ≤ gb341)); replace HB := aM (below_step bB hb); clear hb hbox hg; have hcz3_0 : w2.cell? ⟨gb341, 0, none⟩ = some (.string a0_0) := (blk_cell BK341.out 0).trans rfl; have hcz3_1 : w2.cell? ⟨gb341, 1, none⟩ = some (.string a0_1) := (blk_cell BK341.out 1).trans rfl; have hfz3_0 := blk_frozen BK341.out 0; have hfz3_1 := blk_frozen BK341.out 1))
 go_loopg [10] k (fun kq v10 w' => ∃ (x10_1 : Int), v10 = .int .i64 x10_1 ∧ Aside0 (impl_isField.l0 kq (a0_0.size : Int) x10_1 a0_0 a0_1 = some r) ∧ Aside0 (kq ≤ k) ∧ Aside0 (w'.heap[gb341]? = some (.cells #[.string a0_0, .string a0_1] 151 (0, 0))) ∧ Aside0 (Below w.heap.size w w'))
 case atStart => exact ⟨(0), bS, H', ⟨Nat.le_refl _⟩, ⟨bL BK341⟩, ⟨bG GE341⟩⟩
 case round =>
  clear H'
  try clear c1
  try clear p2
  try clear hcz3_0
  try clear hcz3_1
  try clear hfz3_0
  try clear hfz3_1
  obtain ⟨x10_1, rfl, HA, HK1, BK341, HB⟩ := hrel
  cases gk with
  | zero => exact absurd HA.out (by simp [impl_isField.l0])
  | succ k1 =>
   have H := HA.out
   clear HA
   simp only [impl_isField.l0] at H
   have HQ_ := aM H
   clear H
   have hcz10_0 : wr.cell? ⟨gb341, 0, none⟩ = some (.string a0_0) := (blk_cell BK341.out 0).trans rfl
   have hcz10_1 : wr.cell? ⟨gb341, 1, none⟩ = some (.string a0_1) := (blk_cell BK341.out 1).trans rfl
   have hfz10_0 := blk_frozen BK341.out 0
   have hfz10_1 := blk_frozen BK341.out 1
   have H := HQ_.out
   clear HQ_
   by_cases c4 : x10_1 < (a0_0.size : Int)
   ·rw [if_pos c4] at H
    have c4b0 : decide (x10_1 < (a0_0.size : Int)) = true := decide_eq_true c4
    clear c4
    (try simp only [c4b0])
    by_cases c5 : 0 ≤ x10_1
    ·rw [if_pos c5] at H
     have c5b0 : decide (0 ≤ x10_1) = true := decide_eq_true c5
     clear c5
     by_cases c6 : x10_1 < (a0_0.size : Int)
     ·rw [if_pos c6] at H
      have c6b0 : decide (x10_1 < (a0_0.size : Int)) = true := decide_eq_true c6
      clear c6
      replace H := Option.bind_eq_some_iff.mp H
      obtain ⟨t342, A80, H⟩ := H
      replace H : (if t342 = true then (impl_isField.l0 k1 (a0_0.size : Int) (wrap64 (x10_1 + 1)) a0_0 a0_1) else ((impl_isDigit.f (bt a0_0 x10_1)).bind fun t343 => (if t343 = true then (impl_isField.l0 k1 (a0_0.size : Int) (wrap64 (x10_1 + 1)) a0_0 a0_1) else (if (bt a0_0 x10_1) = 45 then (impl_isField.l0 k1 (a0_0.size : Int) (wrap64 (x10_1 + 1)) a0_0 a0_1) else (some false))))) = some r := H
      have A8 := aM A80
      clear A80
      have HQ_ := aM H
      clear H
      have p7 : 0 ≤ (x10_1 : Int) := pI
      have q7 : x10_1 < (a0_0.size : Int) := pI
      have hx7 := bt_at a0_0 x10_1
      replace p7 := eq_true p7
      replace q7 := eq_true q7
      have H := HQ_.out
      clear HQ_
      by_cases c9 : t342 = true
      ·subst c9
       have H1 : (impl_isField.l0 k1 (a0_0.size : Int) (wrap64 (x10_1 + 1)) a0_0 a0_1) = some r := zz29
       clear H
       have H := H1
       clear H1
       have H' := aM H
       clear H
       go_wp2_with (first | ((with_reducible refine gate_callee (f := 153) rfl ?_); refine gL_ (some 18) Tryd.func153 #[.int .u8 (bt a0_0 x10_1)] ?_; (with_reducible refine (impl_isLetter.calls (bt a0_0 x10_1) true _ A8.out).mono ?_); rintro e w' ⟨rfl, ⟨nd, rfl⟩⟩; refine ⟨_, rfl, ?_⟩))
       go_roundg k1
       case measure => have := HK1.out; omega
       case rel => exact ⟨(wrap64 (x10_1 + 1)), bS, H', ⟨by have := HK1.out; omega⟩, ⟨bL BK341⟩, ⟨bG GE341⟩⟩
      replace c9 := Bool.eq_false_iff.mpr c9
      subst c9
      have H1 : ((impl_isDigit.f (bt a0_0 x10_1)).bind fun t343 => (if t343 = true then (impl_isField.l0 k1 (a0_0.size : Int) (wrap64 (x10_1 + 1)) a0_0 a0_1) else (if (bt a0_0 x10_1) = 45 then (impl_isField.l0 k1 (a0_0.size : Int) (wrap64 (x10_1 + 1)) a0_0 a0_1) else (some false)))) = some r := zz15
      clear H
      have H := H1
      clear H1
      replace H := Option.bind_eq_some_iff.mp H
      obtain ⟨t343, A110, H⟩ := H
      replace H : (if t343 = true then (impl_isField.l0 k1 (a0_0.size : Int) (wrap64 (x10_1 + 1)) a0_0 a0_1) else (if (bt a0_0 x10_1) = 45 then (impl_isField.l0 k1 (a0_0.size : Int) (wrap64 (x10_1 + 1)) a0_0 a0_1) else (some false))) = some r := H
      have A11 := aM A110
      clear A110
      by_cases c12 : t343 = true
      ·subst c12
       have H1 : (impl_isField.l0 k1 (a0_0.size : Int) (wrap64 (x10_1 + 1)) a0_0 a0_1) = some r := zz29
       clear H
       have H := H1
       clear H1
       have H' := aM H
       clear H
       go_wp2_with (first | ((with_reducible refine gate_callee (f := 153) rfl ?_); refine gL_ (some 18) Tryd.func153 #[.int .u8 (bt a0_0 x10_1)] ?_; (with_reducible refine (impl_isLetter.calls (bt a0_0 x10_1) false _ A8.out).mono ?_); rintro e w' ⟨rfl, ⟨nd, rfl⟩⟩; refine ⟨_, rfl, ?_⟩) | (go_at_call 154; (with_reducible refine (impl_isDigit.calls (bt a0_0 x10_1) true _ A11.out).mono ?_); rintro e w' ⟨rfl, ⟨nd, rfl⟩⟩))
       go_roundg k1
       case measure => have := HK1.out; omega
       case rel => exact ⟨(wrap64 (x10_1 + 1)), bS, H', ⟨by have := HK1.out; omega⟩, ⟨bL BK341⟩, ⟨bG GE341⟩⟩
      replace c12 := Bool.eq_false_iff.mpr c12
      subst c12
      have H1 : (if (bt a0_0 x10_1) = 45 then (impl_isField.l0 k1 (a0_0.size : Int) (wrap64 (x10_1 + 1)) a0_0 a0_1) else (some false)) = some r := zz15
      clear H
      have H := H1
      clear H1
      by_cases c14 : (bt a0_0 x10_1) = 45
      ·rw [if_pos c14] at H
       have c14b0 : ((bt a0_0 x10_1) == 45) = true := beq_iff_eq.mpr c14
       have c14b1 : ((bt a0_0 x10_1) != 45) = false := bne_eq_false_iff_eq.mpr c14
       clear c14
       have H' := aM H
       clear H
       (try simp only [c14b0, c14b1])
       go_wp2_with (first | ((with_reducible refine gate_callee (f := 153) rfl ?_); refine gL_ (some 18) Tryd.func153 #[.int .u8 (bt a0_0 x10_1)] ?_; (with_reducible refine (impl_isLetter.calls (bt a0_0 x10_1) false _ A8.out).mono ?_); rintro e w' ⟨rfl, ⟨nd, rfl⟩⟩; refine ⟨_, rfl, ?_⟩) | (go_at_call 154; (with_reducible refine (impl_isDigit.calls (bt a0_0 x10_1) false _ A11.out).mono ?_); rintro e w' ⟨rfl, ⟨nd, rfl⟩⟩))
       go_roundg k1
       case measure => have := HK1.out; omega
       case rel => exact ⟨(wrap64 (x10_1 + 1)), bS, H', ⟨by have := HK1.out; omega⟩, ⟨bL BK341⟩, ⟨bG GE341⟩⟩
      rw [if_neg c14] at H
      have c14b0 : ((bt a0_0 x10_1) == 45) = false := beq_eq_false_iff_ne.mpr c14
      have c14b1 : ((bt a0_0 x10_1) != 45) = true := bne_iff_ne.mpr c14
      obtain rfl := Option.some.inj H
      (try simp only [c14b0, c14b1])
      go_wp2_with (first | ((with_reducible refine gate_callee (f := 153) rfl ?_); refine gL_ (some 18) Tryd.func153 #[.int .u8 (bt a0_0 x10_1)] ?_; (with_reducible refine (impl_isLetter.calls (bt a0_0 x10_1) false _ A8.out).mono ?_); rintro e w' ⟨rfl, ⟨nd, rfl⟩⟩; refine ⟨_, rfl, ?_⟩) | (go_at_call 154; (with_reducible refine (impl_isDigit.calls (bt a0_0 x10_1) false _ A11.out).mono ?_); rintro e w' ⟨rfl, ⟨nd, rfl⟩⟩))
      go_ret
      exact ⟨bE, bG GE341⟩
     rw [if_neg c6] at H
     exact absurd H (by simp)
    rw [if_neg c5] at H
    exact absurd H (by simp)
   rw [if_neg c4] at H
   have c4b0 : decide (x10_1 < (a0_0.size : Int)) = false := decide_eq_false c4
   clear c4
   have H' := aM H
   clear H
   (try simp only [c4b0])
   go_wp2
   go_loopg [33] k1 (fun kq v33 w' => ∃ (x33_2 : Int), v33 = .int .i64 x33_2 ∧ Aside0 (impl_isField.l1 kq (a0_1.size : Int) x33_2 a0_0 a0_1 = some r) ∧ Aside0 (kq ≤ k1) ∧ Aside0 (w'.heap[gb341]? = some (.cells #[.string a0_0, .string a0_1] 151 (0, 0))) ∧ Aside0 (Below w.heap.size w w'))
   case atStart => exact ⟨(0), bS, H', ⟨Nat.le_refl _⟩, ⟨bL BK341⟩, ⟨bG GE341⟩⟩
   case round =>
    clear H'
    try clear c1
    try clear p2
    try clear c4
    try clear c4b0
    try clear c5
    try clear c5b0
    try clear c6
    try clear c6b0
    try clear p6
    try clear p7
    try clear q7
    try clear hx7
    try clear c9
    try clear c12
    try clear c14
    try clear c14b0
    try clear c14b1
    try clear c15
    try clear hcz10_0
    try clear hcz10_1
    try clear hcz13_0
    try clear hcz13_1
    try clear hcz15_0
    try clear hcz15_1
    try clear hcz16_0
    try clear hcz16_1
    try clear hcz10_0
    try clear hcz10_1
    try clear hcz3_0
    try clear hcz3_1
    try clear hfz10_0
    try clear hfz10_1
    try clear hfz13_0
    try clear hfz13_1
    try clear hfz15_0
    try clear hfz15_1
    try clear hfz16_0
    try clear hfz16_1
    try clear hfz10_0
    try clear hfz10_1
    try clear hfz3_0
    try clear hfz3_1
    try clear p2
    try clear p7
    try clear q7
    obtain ⟨x33_2, rfl, HA, HK2, BK341, HB⟩ := hrel
    cases gk with
    | zero => exact absurd HA.out (by simp [impl_isField.l1])
    | succ k2 =>
     have H := HA.out
     clear HA
     simp only [impl_isField.l1] at H
     have HQ_ := aM H
     clear H
     have hcz23_0 : wr.cell? ⟨gb341, 0, none⟩ = some (.string a0_0) := (blk_cell BK341.out 0).trans rfl
     have hcz23_1 : wr.cell? ⟨gb341, 1, none⟩ = some (.string a0_1) := (blk_cell BK341.out 1).trans rfl
     have hfz23_0 := blk_frozen BK341.out 0
     have hfz23_1 := blk_frozen BK341.out 1
     have H := HQ_.out
     clear HQ_
     by_cases c18 : x33_2 < (a0_1.size : Int)
     ·rw [if_pos c18] at H
      have c18b0 : decide (x33_2 < (a0_1.size : Int)) = true := decide_eq_true c18
      clear c18
      (try simp only [c18b0])
      by_cases c19 : 0 ≤ x33_2
      ·rw [if_pos c19] at H
       have c19b0 : decide (0 ≤ x33_2) = true := decide_eq_true c19
       clear c19
       by_cases c20 : x33_2 < (a0_1.size : Int)
       ·rw [if_pos c20] at H
        have c20b0 : decide (x33_2 < (a0_1.size : Int)) = true := decide_eq_true c20
        clear c20
        have HQ_ := aM H
        clear H
        have p21 : 0 ≤ (x33_2 : Int) := pI
        have q21 : x33_2 < (a0_1.size : Int) := pI
        have hx21 := bt_at a0_1 x33_2
        replace p21 := eq_true p21
        replace q21 := eq_true q21
        have H := HQ_.out
        clear HQ_
        by_cases c22 : (bt a0_1 x33_2) < 32
        ·rw [if_pos c22] at H
         have c22b0 : decide ((bt a0_1 x33_2) < 32) = true := decide_eq_true c22
         clear c22
         obtain rfl := Option.some.inj H
         (try simp only [c22b0])
         go_wp2
         go_ret
         exact ⟨bE, bG GE341⟩
        rw [if_neg c22] at H
        have c22b0 : decide ((bt a0_1 x33_2) < 32) = false := decide_eq_false c22
        clear c22
        (try simp only [c22b0])
        by_cases c24 : (bt a0_1 x33_2) = 127
        ·rw [if_pos c24] at H
         have c24b0 : ((bt a0_1 x33_2) == 127) = true := beq_iff_eq.mpr c24
         have c24b1 : ((bt a0_1 x33_2) != 127) = false := bne_eq_false_iff_eq.mpr c24
         clear c24
         obtain rfl := Option.some.inj H
         (try simp only [c24b0, c24b1])
         go_wp2
         go_ret
         exact ⟨bE, bG GE341⟩
        rw [if_neg c24] at H
        have c24b0 : ((bt a0_1 x33_2) == 127) = false := beq_eq_false_iff_ne.mpr c24
        have c24b1 : ((bt a0_1 x33_2) != 127) = true := bne_iff_ne.mpr c24
        have H' := aM H
        clear H
        (try simp only [c24b0, c24b1])
        go_wp2
        go_roundg k2
        case measure => have := HK1.out; have := HK2.out; omega
        case rel => exact ⟨(wrap64 (x33_2 + 1)), bS, H', ⟨zz53 HK1.out HK2.out⟩, ⟨bL BK341⟩, ⟨bG GE341⟩⟩
       rw [if_neg c20] at H
       exact absurd H (by simp)
      rw [if_neg c19] at H
      exact absurd H (by simp)
     rw [if_neg c18] at H
     have c18b0 : decide (x33_2 < (a0_1.size : Int)) = false := decide_eq_false c18
     clear c18
     (try simp only [c18b0])
     by_cases c27 : (a0_0.size : Int) ≥ 1
     ·rw [if_pos c27] at H
      have c27b0 : decide (1 ≤ (a0_0.size : Int)) = true := decide_eq_true c27
      have c27b1 : decide (1 ≤ a0_0.size) = true := decide_eq_true (by omega)
      clear c27
      (try simp only [c27b0, c27b1])
      by_cases c28 : (a0_0.size : Int) ≤ 30
      ·rw [if_pos c28] at H
       have c28b0 : decide ((a0_0.size : Int) ≤ 30) = true := decide_eq_true c28
       have c28b1 : decide (a0_0.size ≤ 30) = true := decide_eq_true (by omega)
       clear c28
       obtain rfl := Option.some.inj H
       (try simp only [c28b0, c28b1])
       go_wp2
       go_ret
       exact ⟨bE, bG GE341⟩
      rw [if_neg c28] at H
      have c28b0 : decide ((a0_0.size : Int) ≤ 30) = false := decide_eq_false c28
      have c28b1 : decide (a0_0.size ≤ 30) = false := decide_eq_false (by omega)
      clear c28
      obtain rfl := Option.some.inj H
      (try simp only [c28b0, c28b1])
      go_wp2
      go_ret
      exact ⟨bE, bG GE341⟩
     rw [if_neg c27] at H
     have c27b0 : decide (1 ≤ (a0_0.size : Int)) = false := decide_eq_false c27
     have c27b1 : decide (1 ≤ a0_0.size) = false := decide_eq_false (by omega)
     clear c27
     obtain rfl := Option.some.inj H
     (try simp only [c27b0, c27b1])
     go_wp2
     go_ret
     exact ⟨bE, bG GE341⟩
def impl_FieldsFault.l0 : Nat → List (S151) → Int → Int → Option (Int)
 | 0, _, _, _ => none
 | k + 1, x8, x9, x10 => if x10 < x9 then (if 0 ≤ x10 then (if x10 < (x8.length : Int) then ((impl_isField.f k ((rd_T151 x8 x10).f0) ((rd_T151 x8 x10).f1)).bind fun t346 => (if t346 = true then (impl_FieldsFault.l0 k x8 x9 (wrap64 (x10 + 1))) else (some 5))) else (none)) else (none)) else (some 0)
def impl_FieldsFault.f (k : Nat) (l0 : List (S151)) : Option (Int) := if (l0.length : Int) > 8 then (some 2) else (impl_FieldsFault.l0 k l0 (l0.length : Int) 0)
set_option maxHeartbeats 8000000 in
set_option maxRecDepth 100000 in
theorem impl_FieldsFault.calls (k : Nat) (A0 : Option Addr) (c0 : Nat) (l0 : List (S151)) (r : Int) (w : World) (hr0 : Kd.C k151 w A0 l0.length l0) (hc0 : l0.length ≤ c0) (h : impl_FieldsFault.f k l0 = some r) :
  Calls Tryd.prog 135 #[.slice A0 l0.length c0] w fun e w' => e = .returned (.int .i64 r) ∧ Below w.heap.size w w' := by
 have hu151 := Tryd.underlying151
 have HR0 := aM hr0
 have HC0 := aM hc0
 clear hr0 hc0
 have HB := aM (Below.refl w.heap.size w)
 have H : (if (l0.length : Int) > 8 then (some 2) else (impl_FieldsFault.l0 k l0 (l0.length : Int) 0)) = some r := h
 clear h
 by_cases c2 : (l0.length : Int) > 8
 ·rw [if_pos c2] at H
  have c2b0 : decide (8 < (l0.length : Int)) = true := decide_eq_true c2
  have c2b1 : decide (8 < l0.length) = true := decide_eq_true (by omega)
  clear c2
  obtain rfl := Option.some.inj H
  go_enter Tryd.func135, Tryd.ntmps135
  go_wp2
  go_ret
  exact ⟨bE, bB⟩
 rw [if_neg c2] at H
 have c2b0 : decide (8 < (l0.length : Int)) = false := decide_eq_false c2
 have c2b1 : decide (8 < l0.length) = false := decide_eq_false (by omega)
 clear c2
 have H' := aM H
 clear H
 go_enter Tryd.func135, Tryd.ntmps135
 go_wp2
 go_loopg [10] k (fun kq v10 w' => ∃ (x10_1 : Int), v10 = .int .i64 x10_1 ∧ Aside0 (impl_FieldsFault.l0 kq l0 (l0.length : Int) x10_1 = some r) ∧ Aside0 (kq ≤ k) ∧ Aside0 (Below w.heap.size w w'))
 case atStart => exact ⟨(0), bS, H', ⟨Nat.le_refl _⟩, ⟨bB⟩⟩
 case round =>
  clear H'
  try clear c1
  try clear c2
  try clear c2b0
  try clear c2b1
  try clear p2
  obtain ⟨x10_1, rfl, HA, HK1, HB⟩ := hrel
  cases gk with
  | zero => exact absurd HA.out (by simp [impl_FieldsFault.l0])
  | succ k1 =>
   have H := HA.out
   clear HA
   simp only [impl_FieldsFault.l0] at H
   by_cases c3 : x10_1 < (l0.length : Int)
   ·rw [if_pos c3] at H
    have c3b0 : decide (x10_1 < (l0.length : Int)) = true := decide_eq_true c3
    clear c3
    by_cases c4 : 0 ≤ x10_1
    ·rw [if_pos c4] at H
     have c4b0 : decide (0 ≤ x10_1) = true := decide_eq_true c4
     clear c4
     by_cases c5 : x10_1 < (l0.length : Int)
     ·rw [if_pos c5] at H
      have c5b0 : decide (x10_1 < (l0.length : Int)) = true := decide_eq_true c5
      clear c5
      replace H := Option.bind_eq_some_iff.mp H
      obtain ⟨t346, A60, H⟩ := H
      replace H : (if t346 = true then (impl_FieldsFault.l0 k1 l0 (l0.length : Int) (wrap64 (x10_1 + 1))) else (some 5)) = some r := H
      have A6 := aM A60
      clear A60
      by_cases c7 : t346 = true
      ·subst c7
       have H1 : (impl_FieldsFault.l0 k1 l0 (l0.length : Int) (wrap64 (x10_1 + 1))) = some r := zz29
       clear H
       have H := H1
       clear H1
       have H' := aM H
       clear H
       have p344 : 0 ≤ (x10_1 : Int) := pI
       have q344 : x10_1 < (l0.length : Int) := pI
       obtain ⟨ad344, e344, hx344_0, hx344_1⟩ := at_T151 HR0.out x10_1 p344 q344
       cases e344
       replace hx344_0 := (HB.out.cell (World.block_lt_of_cell? w _ hx344_0)).trans hx344_0
       replace hx344_1 := (HB.out.cell (World.block_lt_of_cell? w _ hx344_1)).trans hx344_1
       replace p344 := eq_true p344
       replace q344 := eq_true q344
       go_wp2_with (first | ((with_reducible refine gate_dst (N := 4) rfl ?_); refine box_event ?hg (N := 4) ?hd (cs := #[.string (⟨#[]⟩ : ByteArray), .string (⟨#[]⟩ : ByteArray)]) (t := 151) ?hr ?_; (case hd => rfl); (case hg => rfl); (case hr => exact zz13); intro gb345 hg w8 hbox hb; have BK345 := aM (hbox); have GW345 := aM ((zz18 : w.heap.size ≤ gb345)); have GE345 := aM ((zz18 : w.heap.size ≤ gb345)); replace HB := aM (below_step bB hb); clear hb hbox hg; have hcz9_0 : w8.cell? ⟨gb345, 0, none⟩ = some (.string (⟨#[]⟩ : ByteArray)) := (blk_cell BK345.out 0).trans rfl; have hcz9_1 : w8.cell? ⟨gb345, 1, none⟩ = some (.string (⟨#[]⟩ : ByteArray)) := (blk_cell BK345.out 1).trans rfl; have hfz9_0 := blk_frozen BK345.out 0; have hfz9_1 := blk_frozen BK345.out 1) | ((with_reducible refine gate_callee (f := 146) rfl ?_); refine gL_ (some 15) Tryd.func146 #[.agg #[.string ((rd_T151 l0 x10_1).f0), .string ((rd_T151 l0 x10_1).f1)]] ?_; (with_reducible refine (impl_isField.calls k1 ((rd_T151 l0 x10_1).f0) ((rd_T151 l0 x10_1).f1) true _ A6.out).mono ?_); rintro e w10 ⟨rfl, hb⟩; refine ⟨_, rfl, ?_⟩; replace BK345 := aM (blk_below (g := gb345) (o := .cells #[.string ((rd_T151 l0 x10_1).f0), .string ((rd_T151 l0 x10_1).f1)] 151 (0, 0)) (zz16 BK345.out) hb); replace HB := aM (below_step (bG GE345) hb); (try clear hi)))
       go_roundg k1
       case measure => have := HK1.out; omega
       case rel => exact ⟨(wrap64 (x10_1 + 1)), bS, H', ⟨by have := HK1.out; omega⟩, ⟨bG GE345⟩⟩
      replace c7 := Bool.eq_false_iff.mpr c7
      subst c7
      have H1 : (some 5) = some r := zz15
      clear H
      have H := H1
      clear H1
      obtain rfl := Option.some.inj H
      have p344 : 0 ≤ (x10_1 : Int) := pI
      have q344 : x10_1 < (l0.length : Int) := pI
      obtain ⟨ad344, e344, hx344_0, hx344_1⟩ := at_T151 HR0.out x10_1 p344 q344
      cases e344
      replace hx344_0 := (HB.out.cell (World.block_lt_of_cell? w _ hx344_0)).trans hx344_0
      replace hx344_1 := (HB.out.cell (World.block_lt_of_cell? w _ hx344_1)).trans hx344_1
      replace p344 := eq_true p344
      replace q344 := eq_true q344
      go_wp2_with (first | ((with_reducible refine gate_dst (N := 4) rfl ?_); refine box_event ?hg (N := 4) ?hd (cs := #[.string (⟨#[]⟩ : ByteArray), .string (⟨#[]⟩ : ByteArray)]) (t := 151) ?hr ?_; (case hd => rfl); (case hg => rfl); (case hr => exact zz13); intro gb345 hg w11 hbox hb; have BK345 := aM (hbox); have GW345 := aM ((zz18 : w.heap.size ≤ gb345)); have GE345 := aM ((zz18 : w.heap.size ≤ gb345)); replace HB := aM (below_step bB hb); clear hb hbox hg; have hcz12_0 : w11.cell? ⟨gb345, 0, none⟩ = some (.string (⟨#[]⟩ : ByteArray)) := (blk_cell BK345.out 0).trans rfl; have hcz12_1 : w11.cell? ⟨gb345, 1, none⟩ = some (.string (⟨#[]⟩ : ByteArray)) := (blk_cell BK345.out 1).trans rfl; have hfz12_0 := blk_frozen BK345.out 0; have hfz12_1 := blk_frozen BK345.out 1) | ((with_reducible refine gate_callee (f := 146) rfl ?_); refine gL_ (some 15) Tryd.func146 #[.agg #[.string ((rd_T151 l0 x10_1).f0), .string ((rd_T151 l0 x10_1).f1)]] ?_; (with_reducible refine (impl_isField.calls k1 ((rd_T151 l0 x10_1).f0) ((rd_T151 l0 x10_1).f1) false _ A6.out).mono ?_); rintro e w13 ⟨rfl, hb⟩; refine ⟨_, rfl, ?_⟩; replace BK345 := aM (blk_below (g := gb345) (o := .cells #[.string ((rd_T151 l0 x10_1).f0), .string ((rd_T151 l0 x10_1).f1)] 151 (0, 0)) (zz16 BK345.out) hb); replace HB := aM (below_step (bG GE345) hb); (try clear hi)))
      go_ret
      exact ⟨bE, bG GE345⟩
     rw [if_neg c5] at H
     exact absurd H (by simp)
    rw [if_neg c4] at H
    exact absurd H (by simp)
   rw [if_neg c3] at H
   have c3b0 : decide (x10_1 < (l0.length : Int)) = false := decide_eq_false c3
   clear c3
   obtain rfl := Option.some.inj H
   go_wp2
   go_ret
   exact ⟨bE, bB⟩
mutual
def impl_parseHeader.l0 : Nat → List Int → List (S151) → Int → Option ((List (S151)) × Int × Bool)
 | 0, _, _, _ => none
 | k + 1, x0, x5, x6 => if x6 < (x0.length : Int) then (if 0 ≤ x6 then (if x6 ≤ (x0.length : Int) then ((bytes_IndexByte.f (x0.drop (x6 : Int).toNat) 10).bind fun t352 => (if t352 < 0 then (impl_parseHeader.j1 k x0 x5 x6 (wrap64 ((x0.length : Int) - x6)) (x0.length : Int)) else (impl_parseHeader.j1 k x0 x5 x6 t352 (wrap64 ((wrap64 (x6 + t352)) + 1))))) else (none)) else (none)) else ((impl_FieldsFault.f k x5).bind fun t350 => (some (x5, x6, (t350 == 0))))
def impl_parseHeader.j1 : Nat → List Int → List (S151) → Int → Int → Int → Option ((List (S151)) × Int × Bool)
 | 0, _, _, _, _, _ => none
 | k + 1, x0, x5, x6, x7, x8 => if 0 ≤ x6 then (if x6 ≤ (wrap64 (x6 + x7)) then (if (wrap64 (x6 + x7)) ≤ (x0.length : Int) then (if (strOfNums ((x0.take ((wrap64 (x6 + x7)) : Int).toNat).drop (x6 : Int).toNat)).toList = ([] : List UInt8) then ((impl_FieldsFault.f k x5).bind fun t354 => (some (x5, x8, (t354 == 0)))) else (if 0 < ((strOfNums ((x0.take ((wrap64 (x6 + x7)) : Int).toNat).drop (x6 : Int).toNat)).size : Int) then ((impl_isBlank.f (bt (strOfNums ((x0.take ((wrap64 (x6 + x7)) : Int).toNat).drop (x6 : Int).toNat)) 0)).bind fun t355 => (if t355 = true then (if (x5.length : Int) = 0 then (some (([] : List (S151)), 0, false)) else (if 0 ≤ (wrap64 ((x5.length : Int) - 1)) then (if (wrap64 ((x5.length : Int) - 1)) < (x5.length : Int) then (if ((rd_T151 x5 (wrap64 ((x5.length : Int) - 1))).f1).size + (strOfNums ((x0.take ((wrap64 (x6 + x7)) : Int).toNat).drop (x6 : Int).toNat)).size ≤ 9223372036854775807 then (impl_parseHeader.l0 k x0 (x5.set ((wrap64 ((x5.length : Int) - 1)) : Int).toNat (⟨(rd_T151 x5 (wrap64 ((x5.length : Int) - 1))).f0, ((rd_T151 x5 (wrap64 ((x5.length : Int) - 1))).f1) ++ (strOfNums ((x0.take ((wrap64 (x6 + x7)) : Int).toNat).drop (x6 : Int).toNat))⟩ : S151)) x8) else (none)) else (none)) else (none))) else ((strings_Cut.f (strOfNums ((x0.take ((wrap64 (x6 + x7)) : Int).toNat).drop (x6 : Int).toNat)) (⟨#[58]⟩ : ByteArray)).bind fun bt358 => (if bt358.2.2 = true then ((strings_TrimPrefix.f bt358.2.1 (⟨#[32]⟩ : ByteArray)).bind fun t361 => (if x5.length < 4398046511104 then (impl_parseHeader.l0 k x0 (x5 ++ [(⟨bt358.1, t361⟩ : S151)]) x8) else (none))) else (some (([] : List (S151)), 0, false)))))) else (none))) else (none)) else (none)) else (none)
end
def impl_parseHeader.f (k : Nat) (l0 : List Int) : Option ((List (S151)) × Int × Bool) := impl_parseHeader.l0 k l0 (([] : List (S151))) 0
set_option maxHeartbeats 8000000 in
set_option maxRecDepth 100000 in
theorem impl_parseHeader.calls (k : Nat) (A0 : Option Addr) (c0 : Nat) (l0 : List Int) (r1 : List (S151)) (r2 : Int) (r3 : Bool) (w : World) (hr0 : Kd.C (Kd.int .u8) w A0 l0.length l0) (hc0 : l0.length ≤ c0) (h : impl_parseHeader.f k l0 = some (r1, r2, r3)) :
  Calls Tryd.prog 108 #[.slice A0 l0.length c0] w fun e w' => ∃ v0_ : Value, e = .returned (.tuple #[v0_, .int .i64 r2, .bool r3]) ∧ Kd.R k151 151 w' w.heap.size (fun _ => True) v0_ r1 ∧ Below w.heap.size w w' := by
 have hu151 := Tryd.underlying151
 have HR0 := aM hr0
 have HC0 := aM hc0
 clear hr0 hc0
 have HB := aM (Below.refl w.heap.size w)
 have H : (impl_parseHeader.l0 k l0 (([] : List (S151))) 0) = some (r1, r2, r3) := h
 clear h
 obtain ⟨y347, hy347⟩ : ∃ y_ : List (S151), y_ = (([] : List (S151))) := ⟨_, rfl⟩
 replace H : (impl_parseHeader.l0 k l0 y347 0) = some (r1, r2, r3) := zz2 hy347
 have Ny347 := aM hy347
 clear hy347
 have H' := aM H
 clear H
 go_enter Tryd.func108, Tryd.ntmps108
 go_wp2_with (first | ((with_reducible refine gate_dst (N := 13) rfl ?_); refine Kd.R_lit k151 _ 151 ?hg (N := 13) ?hd (xs := ([] : List (S151))) (inner := []) (ok := fun _ => True) (okp := fun _ => True) ?hr ?hp (fun _ hk => hk) trivial (Below.refl _ _) (Nat.le_refl _) (by simp) ?_; (case hd => rfl); (case hg => rfl); (case hr => exact zz13); (case hp => exact (Reps.none _ _)); intro v348 w2 ho3 hb hg_ hnew_; clear hg_ hnew_; (first | rw [← Ny347.out] at ho3 | (simp only [Int.reduceToNat] at ho3; rw [← Ny347.out] at ho3)); have HO349 := aM (Kd.R_lower ho3 (below_size bB)); replace HB := aM (below_step bB hb); clear hb ho3))
 go_loopg [5, 6] k (fun kq v5 v6 w' => ∃ (x5_1 : List (S151)) (x6_1 : Int), v6 = .int .i64 x6_1 ∧ Aside0 (impl_parseHeader.l0 kq l0 x5_1 x6_1 = some (r1, r2, r3)) ∧ Aside0 (kq ≤ k) ∧ Aside0 (Kd.R k151 151 w' w.heap.size (fun _ => True) v5 x5_1) ∧ Aside0 (Below w.heap.size w w'))
 case atStart => exact ⟨(y347), (0), bS, H', ⟨Nat.le_refl _⟩, ⟨bR HO349⟩, ⟨bB⟩⟩
 case round =>
  clear H'
  try clear c1
  try clear p2
  obtain ⟨x5_1, x6_1, rfl, HA, HK1, HO_5, HB⟩ := hrel
  cases gk with
  | zero => exact absurd HA.out (by simp [impl_parseHeader.l0])
  | succ k1 =>
   have H := HA.out
   clear HA
   simp only [impl_parseHeader.l0] at H
   by_cases c4 : x6_1 < (l0.length : Int)
   ·rw [if_pos c4] at H
    have c4b0 : decide (x6_1 < (l0.length : Int)) = true := decide_eq_true c4
    clear c4
    by_cases c5 : 0 ≤ x6_1
    ·rw [if_pos c5] at H
     have c5b0 := eq_true c5
     have c5b1 : decide (0 ≤ x6_1) = true := decide_eq_true c5
     clear c5
     by_cases c6 : x6_1 ≤ (l0.length : Int)
     ·rw [if_pos c6] at H
      have c6b0 := eq_true c6
      have c6b1 : decide (x6_1 ≤ (l0.length : Int)) = true := decide_eq_true c6
      (try have c6z := eq_true (show (x6_1 : Int) ≤ (c0 : Int) from (by have h_ := HC0.out; omega)))
      clear c6
      replace H := Option.bind_eq_some_iff.mp H
      obtain ⟨t352, A70, H⟩ := H
      replace H : (if t352 < 0 then (impl_parseHeader.j1 k1 l0 x5_1 x6_1 (wrap64 ((l0.length : Int) - x6_1)) (l0.length : Int)) else (impl_parseHeader.j1 k1 l0 x5_1 x6_1 t352 (wrap64 ((wrap64 (x6_1 + t352)) + 1)))) = some (r1, r2, r3) := H
      have A7 := aM A70
      clear A70
      have HC8 := aM H
      clear H
      obtain ⟨i09, hi09, _, hsz9, _⟩ := info_parts info5
      obtain ⟨A9, hcut9, hA9, hC9⟩ := print_drop_of (P := Tryd.prog) (Value.int .u8) 0 27 5 .i64 Tryd.underlying27 hi09 hsz9 A0 c0 l0 x6_1 (pI) (pI) HC0.out
      have HR351 := aM (Kd.C_of_reads (h1 := fun _ => rfl) (hA9 _ (Kd.reads_of_C HR0.out)))
      have HC351 := aM hC9
      clear hA9 hC9 hi09 hsz9
      go_upto_if 27 with (first | ((with_reducible refine gate_callee (f := 117) rfl ?_); refine goesL_ (some 21) rfl rfl Tryd.func117 (by kernel_rfl) rfl #[.slice A9 (l0.drop (x6_1 : Int).toNat).length (c0 - x6_1.toNat), .int .u8 10] rfl (by (try simp only [List.map_toArray, List.map_cons, List.map_nil]); first | done | (rw [show (l0.drop (x6_1 : Int).toNat).length = (l0.length - x6_1.toNat) from List.length_drop] <;> rfl) | rfl | (simp only [List.length_drop, List.length_take]; rfl)) ?_; (with_reducible refine (bytes_IndexByte.calls _ _ (l0.drop (x6_1 : Int).toNat) 10 t352 _ ?side1 ?side2 A7.out).mono ?_); (case side1 => exact zz6 HR351.out); (case side2 => exact HC351.out); rintro e w' ⟨rfl, ⟨nd, rfl⟩⟩; refine ⟨_, rfl, ?_⟩))
      (try simp only [Act.put, List.setIfInBounds_toArray, List.set_cons_zero, List.set_cons_succ])
      go_cut [7, 8] (fun v7 v8 wc => ∃ (kq : Nat) (x7_7 : Int) (x8_7 : Int), v7 = .int .i64 x7_7 ∧ v8 = .int .i64 x8_7 ∧ Aside0 (impl_parseHeader.j1 kq l0 x5_1 x6_1 x7_7 x8_7 = some (r1, r2, r3)) ∧ Aside0 (kq ≤ k1) ∧ Aside0 (Kd.R k151 151 wc w.heap.size (fun _ => True) u5 x5_1) ∧ Aside0 (Below w.heap.size w wc))
      case first =>
       have H := HC8.out
       clear HC8
       by_cases c10 : t352 < 0
       ·rw [if_pos c10] at H
        have c10b0 : decide (t352 < 0) = true := decide_eq_true c10
        clear c10
        (first | rw [c10b0] | (simp only [i64_w, i32_w]; rw [c10b0]) | skip)
        have H' := aM H
        clear H
        go_wp2
        go_meet
        case rel => exact ⟨_, (wrap64 ((l0.length : Int) - x6_1)), ((l0.length : Int)), bS, bS, H', ⟨zz45 HK1.out⟩, ⟨bR HO_5⟩, ⟨bB⟩⟩
       rw [if_neg c10] at H
       have c10b0 : decide (t352 < 0) = false := decide_eq_false c10
       clear c10
       (first | rw [c10b0] | (simp only [i64_w, i32_w]; rw [c10b0]) | skip)
       have H' := aM H
       clear H
       go_wp2
       go_meet
       case rel => exact ⟨_, (t352), (wrap64 ((wrap64 (x6_1 + t352)) + 1)), bS, bS, H', ⟨zz45 HK1.out⟩, ⟨bR HO_5⟩, ⟨bB⟩⟩
      case rest =>
       clear HC8
       try clear c1
       try clear p2
       try clear c4
       try clear c4b0
       try clear c5
       try clear c5b0
       try clear c5b1
       try clear c6
       try clear c6b0
       try clear c6b1
       try clear p6
       try clear c10
       try clear c10b0
       try clear p2
       obtain ⟨kq, x7_7, x8_7, rfl, rfl, HA, HJ7, HO_5, HB⟩ := hcut
       cases kq with
       | zero => exact absurd HA.out (by simp [impl_parseHeader.j1])
       | succ kj7 =>
        have H := HA.out
        clear HA
        simp only [impl_parseHeader.j1] at H
        by_cases c11 : 0 ≤ x6_1
        ·rw [if_pos c11] at H
         have c11b0 := eq_true c11
         have c11b1 : decide (0 ≤ x6_1) = true := decide_eq_true c11
         clear c11
         by_cases c12 : x6_1 ≤ (wrap64 (x6_1 + x7_7))
         ·rw [if_pos c12] at H
          have c12b0 := eq_true c12
          have c12b1 : decide (x6_1 ≤ (wrap64 (x6_1 + x7_7))) = true := decide_eq_true c12
          by_cases c13 : (wrap64 (x6_1 + x7_7)) ≤ (l0.length : Int)
          ·rw [if_pos c13] at H
           have c13b0 := eq_true c13
           have c13b1 : decide ((wrap64 (x6_1 + x7_7)) ≤ (l0.length : Int)) = true := decide_eq_true c13
           by_cases c14 : (strOfNums ((l0.take ((wrap64 (x6_1 + x7_7)) : Int).toNat).drop (x6_1 : Int).toNat)).toList = ([] : List UInt8)
           ·rw [if_pos c14] at H
            have c14b0 : ((strOfNums ((l0.take ((wrap64 (x6_1 + x7_7)) : Int).toNat).drop (x6_1 : Int).toNat)).toList == ([] : List UInt8)) = true := beq_iff_eq.mpr c14
            have c14b1 : ((strOfNums ((l0.take ((wrap64 (x6_1 + x7_7)) : Int).toNat).drop (x6_1 : Int).toNat)).toList != ([] : List UInt8)) = false := bne_eq_false_iff_eq.mpr c14
            clear c14
            replace H := Option.bind_eq_some_iff.mp H
            obtain ⟨t354, A150, H⟩ := H
            replace H : (some (x5_1, x8_7, (t354 == 0))) = some (r1, r2, r3) := H
            have A15 := aM A150
            clear A150
            simp only [Option.some.injEq, Prod.mk.injEq] at H
            obtain ⟨rfl, rfl, rfl⟩ := H
            obtain ⟨i016, hi016, _, hsz16, _⟩ := info_parts info5
            obtain ⟨A16, hcut16, hA16, hC16⟩ := print_mid_of (P := Tryd.prog) (Value.int .u8) 0 27 5 .i64 .i64 Tryd.underlying27 hi016 hsz16 A0 c0 l0 x6_1 (wrap64 (x6_1 + x7_7)) (pI) (by first | omega | exact pI) (pI) HC0.out
            have HR353 := aM (Kd.C_of_reads (h1 := fun _ => rfl) (hA16 _ (Kd.reads_of_C HR0.out)))
            have HC353 := aM hC16
            clear hA16 hC16 hi016 hsz16
            have hcv17 := Kd.C_string (P := Tryd.prog) (A := A16) (c := (c0 - x6_1.toNat)) Tryd.underlying27 Tryd.underlying5 Tryd.underlying9 (Kd.C_below HR353.out HB.out)
            (try have hcd18 := fun nq_ : Nat => Kd.C_string (P := Tryd.prog) (A := A16) (c := (c0 - x6_1.toNat)) Tryd.underlying27 Tryd.underlying5 Tryd.underlying9 (Kd.C_drewN (Kd.C_below HR353.out HB.out) nq_))
            (try have hce18 := Kd.C_string (P := Tryd.prog) (A := A16) (c := (c0 - x6_1.toNat)) Tryd.underlying27 Tryd.underlying5 Tryd.underlying9 (Kd.C_below HR353.out HB.out))
            (try (have hln18 : ((l0.take ((wrap64 (x6_1 + x7_7)) : Int).toNat).drop (x6_1 : Int).toNat).length = ((wrap64 (x6_1 + x7_7)) : Int).toNat - (x6_1 : Int).toNat := zz34))
            (try rw [hln18] at hce18)
            (try simp only [hln18] at hcd18)
            (try clear hln18)
            obtain ⟨Ao19, co19, eo19⟩ := Kd.R_slice HO_5.out
            subst eo19
            go_wp2_with (first | ((with_reducible refine gate_callee (f := 135) rfl ?_); refine gL_ (some 79) Tryd.func135 #[.slice Ao19 x5_1.length co19] ?_; (with_reducible refine (impl_FieldsFault.calls kj7 _ _ x5_1 t354 _ ?side1 ?side2 A15.out).mono ?_); (case side1 => exact zz7 HO_5.out); (case side2 => exact (Kd.R_reads' HO_5.out).2.1); rintro e w20 ⟨rfl, hb⟩; refine ⟨_, rfl, ?_⟩; replace HO_5 := aM (Kd.R_below (bR HO_5) hb); replace HB := aM (below_step bB hb); (try clear hi)))
            go_ret3
            exact ⟨_, bE, bR HO_5, bB⟩
           rw [if_neg c14] at H
           have c14b0 : ((strOfNums ((l0.take ((wrap64 (x6_1 + x7_7)) : Int).toNat).drop (x6_1 : Int).toNat)).toList == ([] : List UInt8)) = false := beq_eq_false_iff_ne.mpr c14
           have c14b1 : ((strOfNums ((l0.take ((wrap64 (x6_1 + x7_7)) : Int).toNat).drop (x6_1 : Int).toNat)).toList != ([] : List UInt8)) = true := bne_iff_ne.mpr c14
           by_cases c21 : 0 < ((strOfNums ((l0.take ((wrap64 (x6_1 + x7_7)) : Int).toNat).drop (x6_1 : Int).toNat)).size : Int)
           ·rw [if_pos c21] at H
            have c21b0 : decide (0 < ((strOfNums ((l0.take ((wrap64 (x6_1 + x7_7)) : Int).toNat).drop (x6_1 : Int).toNat)).size : Int)) = true := decide_eq_true c21
            have c21b1 : decide (0 < (strOfNums ((l0.take ((wrap64 (x6_1 + x7_7)) : Int).toNat).drop (x6_1 : Int).toNat)).size) = true := decide_eq_true (by omega)
            clear c21
            replace H := Option.bind_eq_some_iff.mp H
            obtain ⟨t355, A230, H⟩ := H
            replace H : (if t355 = true then (if (x5_1.length : Int) = 0 then (some (([] : List (S151)), 0, false)) else (if 0 ≤ (wrap64 ((x5_1.length : Int) - 1)) then (if (wrap64 ((x5_1.length : Int) - 1)) < (x5_1.length : Int) then (if ((rd_T151 x5_1 (wrap64 ((x5_1.length : Int) - 1))).f1).size + (strOfNums ((l0.take ((wrap64 (x6_1 + x7_7)) : Int).toNat).drop (x6_1 : Int).toNat)).size ≤ 9223372036854775807 then (impl_parseHeader.l0 kj7 l0 (x5_1.set ((wrap64 ((x5_1.length : Int) - 1)) : Int).toNat (⟨(rd_T151 x5_1 (wrap64 ((x5_1.length : Int) - 1))).f0, ((rd_T151 x5_1 (wrap64 ((x5_1.length : Int) - 1))).f1) ++ (strOfNums ((l0.take ((wrap64 (x6_1 + x7_7)) : Int).toNat).drop (x6_1 : Int).toNat))⟩ : S151)) x8_7) else (none)) else (none)) else (none))) else ((strings_Cut.f (strOfNums ((l0.take ((wrap64 (x6_1 + x7_7)) : Int).toNat).drop (x6_1 : Int).toNat)) (⟨#[58]⟩ : ByteArray)).bind fun bt358 => (if bt358.2.2 = true then ((strings_TrimPrefix.f bt358.2.1 (⟨#[32]⟩ : ByteArray)).bind fun t361 => (if x5_1.length < 4398046511104 then (impl_parseHeader.l0 kj7 l0 (x5_1 ++ [(⟨bt358.1, t361⟩ : S151)]) x8_7) else (none))) else (some (([] : List (S151)), 0, false))))) = some (r1, r2, r3) := H
            have A23 := aM A230
            clear A230
            by_cases c24 : t355 = true
            ·subst c24
             have H1 : (if (x5_1.length : Int) = 0 then (some (([] : List (S151)), 0, false)) else (if 0 ≤ (wrap64 ((x5_1.length : Int) - 1)) then (if (wrap64 ((x5_1.length : Int) - 1)) < (x5_1.length : Int) then (if ((rd_T151 x5_1 (wrap64 ((x5_1.length : Int) - 1))).f1).size + (strOfNums ((l0.take ((wrap64 (x6_1 + x7_7)) : Int).toNat).drop (x6_1 : Int).toNat)).size ≤ 9223372036854775807 then (impl_parseHeader.l0 kj7 l0 (x5_1.set ((wrap64 ((x5_1.length : Int) - 1)) : Int).toNat (⟨(rd_T151 x5_1 (wrap64 ((x5_1.length : Int) - 1))).f0, ((rd_T151 x5_1 (wrap64 ((x5_1.length : Int) - 1))).f1) ++ (strOfNums ((l0.take ((wrap64 (x6_1 + x7_7)) : Int).toNat).drop (x6_1 : Int).toNat))⟩ : S151)) x8_7) else (none)) else (none)) else (none))) = some (r1, r2, r3) := zz29
             clear H
             have H := H1
             clear H1
             by_cases c25 : (x5_1.length : Int) = 0
             ·rw [if_pos c25] at H
              have c25b0 : ((x5_1.length : Int) == 0) = true := beq_iff_eq.mpr c25
              have c25b1 : ((x5_1.length : Int) != 0) = false := bne_eq_false_iff_eq.mpr c25
              clear c25
              simp only [Option.some.injEq, Prod.mk.injEq] at H
              obtain ⟨rfl, rfl, rfl⟩ := H
              obtain ⟨i026, hi026, _, hsz26, _⟩ := info_parts info5
              obtain ⟨A26, hcut26, hA26, hC26⟩ := print_mid_of (P := Tryd.prog) (Value.int .u8) 0 27 5 .i64 .i64 Tryd.underlying27 hi026 hsz26 A0 c0 l0 x6_1 (wrap64 (x6_1 + x7_7)) (pI) (by first | omega | exact pI) (pI) HC0.out
              have HR353 := aM (Kd.C_of_reads (h1 := fun _ => rfl) (hA26 _ (Kd.reads_of_C HR0.out)))
              have HC353 := aM hC26
              clear hA26 hC26 hi026 hsz26
              have hcv27 := Kd.C_string (P := Tryd.prog) (A := A26) (c := (c0 - x6_1.toNat)) Tryd.underlying27 Tryd.underlying5 Tryd.underlying9 (Kd.C_below HR353.out HB.out)
              (try have hcd28 := fun nq_ : Nat => Kd.C_string (P := Tryd.prog) (A := A26) (c := (c0 - x6_1.toNat)) Tryd.underlying27 Tryd.underlying5 Tryd.underlying9 (Kd.C_drewN (Kd.C_below HR353.out HB.out) nq_))
              (try have hce28 := Kd.C_string (P := Tryd.prog) (A := A26) (c := (c0 - x6_1.toNat)) Tryd.underlying27 Tryd.underlying5 Tryd.underlying9 (Kd.C_below HR353.out HB.out))
              (try (have hln28 : ((l0.take ((wrap64 (x6_1 + x7_7)) : Int).toNat).drop (x6_1 : Int).toNat).length = ((wrap64 (x6_1 + x7_7)) : Int).toNat - (x6_1 : Int).toNat := zz34))
              (try rw [hln28] at hce28)
              (try simp only [hln28] at hcd28)
              (try clear hln28)
              have p22 : 0 ≤ (0 : Int) := (by omega)
              have q22 : 0 < (strOfNums ((l0.take ((wrap64 (x6_1 + x7_7)) : Int).toNat).drop (x6_1 : Int).toNat)).size := zz43
              have hx22 : ∀ h : 0 < (strOfNums ((l0.take ((wrap64 (x6_1 + x7_7)) : Int).toNat).drop (x6_1 : Int).toNat)).size, (((strOfNums ((l0.take ((wrap64 (x6_1 + x7_7)) : Int).toNat).drop (x6_1 : Int).toNat))[0]'h).toNat : Int) = bt (strOfNums ((l0.take ((wrap64 (x6_1 + x7_7)) : Int).toNat).drop (x6_1 : Int).toNat)) 0 := bt_at (strOfNums ((l0.take ((wrap64 (x6_1 + x7_7)) : Int).toNat).drop (x6_1 : Int).toNat)) 0
              clear p22
              have qi22 : (0 < ((strOfNums ((l0.take ((wrap64 (x6_1 + x7_7)) : Int).toNat).drop (x6_1 : Int).toNat)).size : Int)) = True := eq_true (pI)
              replace q22 := eq_true q22
              go_wp2_with (first | ((with_reducible refine gate_callee (f := 132) rfl ?_); refine gL_ (some 46) Tryd.func132 #[.int .u8 (bt (strOfNums ((l0.take ((wrap64 (x6_1 + x7_7)) : Int).toNat).drop (x6_1 : Int).toNat)) 0)] ?_; (with_reducible refine (impl_isBlank.calls (bt (strOfNums ((l0.take ((wrap64 (x6_1 + x7_7)) : Int).toNat).drop (x6_1 : Int).toNat)) 0) true _ A23.out).mono ?_); rintro e w' ⟨rfl, ⟨nd, rfl⟩⟩; refine ⟨_, rfl, ?_⟩; obtain ⟨Ao29, co29, eo29⟩ := Kd.R_slice HO_5.out; subst eo29))
              go_ret3
              exact ⟨_, bE, zz38, bB⟩
             rw [if_neg c25] at H
             have c25b0 : ((x5_1.length : Int) == 0) = false := beq_eq_false_iff_ne.mpr c25
             have c25b1 : ((x5_1.length : Int) != 0) = true := bne_iff_ne.mpr c25
             have c25b2 : ¬ (x5_1 = []) := fun h_ => c25 (by rw [h_]; rfl)
             obtain ⟨ji30, hji30⟩ : ∃ j_ : Int, (wrap64 ((x5_1.length : Int) - 1)) = j_ := ⟨_, rfl⟩
             replace H : (if 0 ≤ (ji30) then (if (ji30) < (x5_1.length : Int) then (if ((rd_T151 x5_1 (ji30)).f1).size + (strOfNums ((l0.take ((wrap64 (x6_1 + x7_7)) : Int).toNat).drop (x6_1 : Int).toNat)).size ≤ 9223372036854775807 then (impl_parseHeader.l0 kj7 l0 (x5_1.set ((ji30) : Int).toNat (⟨(rd_T151 x5_1 (ji30)).f0, ((rd_T151 x5_1 (ji30)).f1) ++ (strOfNums ((l0.take ((wrap64 (x6_1 + x7_7)) : Int).toNat).drop (x6_1 : Int).toNat))⟩ : S151)) x8_7) else (none)) else (none)) else (none)) = some (r1, r2, r3) := by first | (rw [hji30] at H; exact H) | (simp only [hji30] at H ⊢; exact H)
             (try rw [hji30] at A23)
             have hji30w : (IntKind.i64.wrap ((x5_1.length : Int) - 1)) = ji30 := (i64_w _).trans hji30
             by_cases c31 : 0 ≤ (ji30)
             ·rw [if_pos c31] at H
              have c31b0 : decide (0 ≤ (ji30)) = true := decide_eq_true c31
              clear c31
              by_cases c32 : (ji30) < (x5_1.length : Int)
              ·rw [if_pos c32] at H
               have c32b0 : decide ((ji30) < (x5_1.length : Int)) = true := decide_eq_true c32
               clear c32
               by_cases c33 : ((rd_T151 x5_1 (ji30)).f1).size + (strOfNums ((l0.take ((wrap64 (x6_1 + x7_7)) : Int).toNat).drop (x6_1 : Int).toNat)).size ≤ 9223372036854775807
               ·rw [if_pos c33] at H
                have c33b0 := eq_true c33
                have c33b1 : decide (((rd_T151 x5_1 (ji30)).f1).size + (strOfNums ((l0.take ((wrap64 (x6_1 + x7_7)) : Int).toNat).drop (x6_1 : Int).toNat)).size ≤ 9223372036854775807) = true := decide_eq_true c33
                try have c33b2 : (9223372036854775807 < ((rd_T151 x5_1 (ji30)).f1).size + (strOfNums ((l0.take ((wrap64 (x6_1 + x7_7)) : Int).toNat).drop (x6_1 : Int).toNat)).size) = False := eq_false (Nat.not_lt.2 c33)
                obtain ⟨y357, hy357⟩ : ∃ y_ : List (S151), y_ = (x5_1.set ((ji30) : Int).toNat (⟨(rd_T151 x5_1 (ji30)).f0, ((rd_T151 x5_1 (ji30)).f1) ++ (strOfNums ((l0.take ((wrap64 (x6_1 + x7_7)) : Int).toNat).drop (x6_1 : Int).toNat))⟩ : S151)) := ⟨_, rfl⟩
                replace H : (impl_parseHeader.l0 kj7 l0 y357 x8_7) = some (r1, r2, r3) := zz2 hy357
                have Ny357 := aM hy357
                clear hy357
                have H' := aM H
                clear H
                obtain ⟨i035, hi035, _, hsz35, _⟩ := info_parts info5
                obtain ⟨A35, hcut35, hA35, hC35⟩ := print_mid_of (P := Tryd.prog) (Value.int .u8) 0 27 5 .i64 .i64 Tryd.underlying27 hi035 hsz35 A0 c0 l0 x6_1 (wrap64 (x6_1 + x7_7)) (pI) (by first | omega | exact pI) (pI) HC0.out
                have HR353 := aM (Kd.C_of_reads (h1 := fun _ => rfl) (hA35 _ (Kd.reads_of_C HR0.out)))
                have HC353 := aM hC35
                clear hA35 hC35 hi035 hsz35
                have hcv36 := Kd.C_string (P := Tryd.prog) (A := A35) (c := (c0 - x6_1.toNat)) Tryd.underlying27 Tryd.underlying5 Tryd.underlying9 (Kd.C_below HR353.out HB.out)
                (try have hcd37 := fun nq_ : Nat => Kd.C_string (P := Tryd.prog) (A := A35) (c := (c0 - x6_1.toNat)) Tryd.underlying27 Tryd.underlying5 Tryd.underlying9 (Kd.C_drewN (Kd.C_below HR353.out HB.out) nq_))
                (try have hce37 := Kd.C_string (P := Tryd.prog) (A := A35) (c := (c0 - x6_1.toNat)) Tryd.underlying27 Tryd.underlying5 Tryd.underlying9 (Kd.C_below HR353.out HB.out))
                (try (have hln37 : ((l0.take ((wrap64 (x6_1 + x7_7)) : Int).toNat).drop (x6_1 : Int).toNat).length = ((wrap64 (x6_1 + x7_7)) : Int).toNat - (x6_1 : Int).toNat := zz34))
                (try rw [hln37] at hce37)
                (try simp only [hln37] at hcd37)
                (try clear hln37)
                have p22 : 0 ≤ (0 : Int) := (by omega)
                have q22 : 0 < (strOfNums ((l0.take ((wrap64 (x6_1 + x7_7)) : Int).toNat).drop (x6_1 : Int).toNat)).size := zz43
                have hx22 : ∀ h : 0 < (strOfNums ((l0.take ((wrap64 (x6_1 + x7_7)) : Int).toNat).drop (x6_1 : Int).toNat)).size, (((strOfNums ((l0.take ((wrap64 (x6_1 + x7_7)) : Int).toNat).drop (x6_1 : Int).toNat))[0]'h).toNat : Int) = bt (strOfNums ((l0.take ((wrap64 (x6_1 + x7_7)) : Int).toNat).drop (x6_1 : Int).toNat)) 0 := bt_at (strOfNums ((l0.take ((wrap64 (x6_1 + x7_7)) : Int).toNat).drop (x6_1 : Int).toNat)) 0
                clear p22
                have qi22 : (0 < ((strOfNums ((l0.take ((wrap64 (x6_1 + x7_7)) : Int).toNat).drop (x6_1 : Int).toNat)).size : Int)) = True := eq_true (pI)
                replace q22 := eq_true q22
                go_wp2_with (first | ((with_reducible refine gate_callee (f := 132) rfl ?_); refine gL_ (some 46) Tryd.func132 #[.int .u8 (bt (strOfNums ((l0.take ((wrap64 (x6_1 + x7_7)) : Int).toNat).drop (x6_1 : Int).toNat)) 0)] ?_; (with_reducible refine (impl_isBlank.calls (bt (strOfNums ((l0.take ((wrap64 (x6_1 + x7_7)) : Int).toNat).drop (x6_1 : Int).toNat)) 0) true _ A23.out).mono ?_); rintro e w' ⟨rfl, ⟨nd, rfl⟩⟩; refine ⟨_, rfl, ?_⟩; (try (rw [drewN_self wc]; generalize hq_ : World.drewN wc _ = wc; have n0_ : Aside0 (Kd.R k151 151 wc w.heap.size (fun _ => True) u5 x5_1) := ⟨by rw [← hq_]; exact (bR HO_5)⟩; have n1_ : Aside0 (Below w.heap.size w wc) := ⟨by rw [← hq_]; exact bB⟩; clear HO_5 HB hq_; have HO_5 := n0_; have HB := n1_; clear n0_ n1_)); obtain ⟨Ao38, co38, eo38⟩ := Kd.R_slice HO_5.out; subst eo38; have p356 : 0 ≤ ((ji30) : Int) := pI; have q356 : (ji30) < (x5_1.length : Int) := pI; obtain ⟨ad356, e356, hx356_0, hx356_1⟩ := at_T151 (Kd.R_reads' HO_5.out).2.2 (ji30) p356 q356; cases e356; replace p356 := eq_true p356; replace q356 := eq_true q356; have p34 : 0 ≤ ((ji30) : Int) := pI; have q34 : ((ji30) : Int) < ((x5_1.length : Int) : Int) := pI; obtain ⟨go34, co34, eo34, gb34, gl34, cl34, HG34⟩ := Kd.R_form HO_5.out (by omega); (first | cases eo34 | (injection eo34 with ea_ en_ ec_; (first | subst ea_ | (injection ea_ with ea_; subst ea_)); subst ec_; clear en_)); have GB34 := aM gb34; have GG34 := aM HG34; clear gb34 gl34 HG34; (first | simp only [add_plain] at hx356_0 | skip); (first | simp only [add_plain] at hx356_1 | skip); obtain ⟨ce34, hcl34, hM34, hcc34, hfr34⟩ := Kd.R_elem HO_5.out z151 ((ji30) : Int) p34 q34; obtain rfl := k151_openM hM34; have hx34_0 : wc.cell? ⟨go34, ((ji30) : Int).toNat * 2, none⟩ = some (.string ((rd_T151 x5_1 (ji30)).f0)) := hcc34 0 _ rfl; have hx34_1 : wc.cell? ⟨go34, ((ji30) : Int).toNat * 2 + 1, none⟩ = some (.string ((rd_T151 x5_1 (ji30)).f1)) := hcc34 1 _ rfl; have hf34_0 : wc.frozen? ⟨go34, ((ji30) : Int).toNat * 2, none⟩ = false := hfr34 0 (by decide); have hf34_1 : wc.frozen? ⟨go34, ((ji30) : Int).toNat * 2 + 1, none⟩ = false := hfr34 1 (by decide); clear hcl34 hcc34 hfr34 hM34; replace p34 := eq_true p34; replace q34 := eq_true q34; have HX39 := aM (show Kd.R k151 151 wc w.heap.size (fun _ => True) (.slice (some ⟨go34, 0, none⟩) x5_1.length co38) x5_1 from (bR HO_5)); obtain ⟨ce39, hcl39, hM39, hcc39, hfr39⟩ := Kd.R_elem HX39.out z151 ((ji30) : Int) (pI) (bH (pI : ((ji30) : Int) < ((x5_1.length : Int) : Int)) (Kd.R_reads' HO_5.out).1); obtain rfl := k151_openM hM39; have HP39 := Kd.R_seg HX39.out ((ji30) : Int) (pI) (bH (pI : ((ji30) : Int) < ((x5_1.length : Int) : Int)) (Kd.R_reads' HO_5.out).1) (seg := [.string (((rd_T151 x5_1 (ji30)).f1) ++ (strOfNums ((l0.take ((wrap64 (x6_1 + x7_7)) : Int).toNat).drop (x6_1 : Int).toNat)))]) (j := 1) hcl39 hcc39 (show 2 ≤ 2 from by decide) (x' := (⟨(rd_T151 x5_1 (ji30)).f0, ((rd_T151 x5_1 (ji30)).f1) ++ (strOfNums ((l0.take ((wrap64 (x6_1 + x7_7)) : Int).toNat).drop (x6_1 : Int).toNat))⟩ : S151)) (k151_mkM _ _ _ (⟨(rd_T151 x5_1 (ji30)).f0, ((rd_T151 x5_1 (ji30)).f1) ++ (strOfNums ((l0.take ((wrap64 (x6_1 + x7_7)) : Int).toNat).drop (x6_1 : Int).toNat))⟩ : S151) ) (fun _ hk => hk); have hx39_1 := hcc39 1 _ rfl; (try simp only [show (k151).sz = 2 from rfl, Nat.mul_one, Nat.add_zero] at hx39_1); have hf39_1 := hfr39 1 (by decide); (try simp only [show (k151).sz = 2 from rfl, Nat.mul_one, Nat.add_zero] at hf39_1); clear hcl39 hcc39 hfr39 hM39) | ((with_reducible refine gate_store (t := 9) (p := 60) rfl ?_); refine store_event (t := 9) (p := 60) (v := ?vo_w40) (w1 := (wc.setCell ⟨go34, ((ji30) : Int).toNat * 2 + 1, none⟩ (.string (((rd_T151 x5_1 (ji30)).f1) ++ (strOfNums ((l0.take ((wrap64 (x6_1 + x7_7)) : Int).toNat).drop (x6_1 : Int).toNat)))))) ?hg ?ho ?hn ?hr ?_; (case ho => rfl); (case hg => rfl); (case hn => rfl); (case hr => exact zz13); intro w40 hw; have hg : wc.grownBy w40 (some go34) := (by rw [hw]; exact HP39.2); have hp_ : Kd.R k151 151 w40 w.heap.size (fun _ => True) (.slice (some ⟨go34, 0, none⟩) x5_1.length co38) y357 := (by rw [hw, Ny357.out]; exact HP39.1); clear HP39; replace HO_5 := aM (hp_); replace HB := aM ((zz61 GB34.out : Below w.heap.size w w40)); clear hg hw hp_))
                go_roundg kj7
                case measure => have := HK1.out; have := HJ7.out; omega
                case rel => exact ⟨(y357), (x8_7), bS, H', ⟨zz53 HK1.out HJ7.out⟩, ⟨bR HO_5⟩, ⟨bB⟩⟩
               rw [if_neg c33] at H
               exact absurd H (by simp)
              rw [if_neg c32] at H
              exact absurd H (by simp)
             rw [if_neg c31] at H
             exact absurd H (by simp)
            replace c24 := Bool.eq_false_iff.mpr c24
            subst c24
            have H1 : ((strings_Cut.f (strOfNums ((l0.take ((wrap64 (x6_1 + x7_7)) : Int).toNat).drop (x6_1 : Int).toNat)) (⟨#[58]⟩ : ByteArray)).bind fun bt358 => (if bt358.2.2 = true then ((strings_TrimPrefix.f bt358.2.1 (⟨#[32]⟩ : ByteArray)).bind fun t361 => (if x5_1.length < 4398046511104 then (impl_parseHeader.l0 kj7 l0 (x5_1 ++ [(⟨bt358.1, t361⟩ : S151)]) x8_7) else (none))) else (some (([] : List (S151)), 0, false)))) = some (r1, r2, r3) := zz15
            clear H
            have H := H1
            clear H1
            replace H := Option.bind_eq_some_iff.mp H
            obtain ⟨⟨t358, t359, t360⟩, A410, H⟩ := H
            replace H : (if t360 = true then ((strings_TrimPrefix.f t359 (⟨#[32]⟩ : ByteArray)).bind fun t361 => (if x5_1.length < 4398046511104 then (impl_parseHeader.l0 kj7 l0 (x5_1 ++ [(⟨t358, t361⟩ : S151)]) x8_7) else (none))) else (some (([] : List (S151)), 0, false))) = some (r1, r2, r3) := H
            have A41 := aM A410
            clear A410
            have HQ_ := aM H
            clear H
            obtain ⟨i045, hi045, _, hsz45, _⟩ := info_parts info5
            have H := HQ_.out
            clear HQ_
            by_cases c42 : t360 = true
            ·subst c42
             have H1 : ((strings_TrimPrefix.f t359 (⟨#[32]⟩ : ByteArray)).bind fun t361 => (if x5_1.length < 4398046511104 then (impl_parseHeader.l0 kj7 l0 (x5_1 ++ [(⟨t358, t361⟩ : S151)]) x8_7) else (none))) = some (r1, r2, r3) := zz29
             clear H
             have H := H1
             clear H1
             replace H := Option.bind_eq_some_iff.mp H
             obtain ⟨t361, A430, H⟩ := H
             replace H : (if x5_1.length < 4398046511104 then (impl_parseHeader.l0 kj7 l0 (x5_1 ++ [(⟨t358, t361⟩ : S151)]) x8_7) else (none)) = some (r1, r2, r3) := H
             have A43 := aM A430
             clear A430
             by_cases c44 : x5_1.length < 4398046511104
             ·rw [if_pos c44] at H
              have LMc44 := aM c44
              clear c44
              obtain ⟨y362, hy362⟩ : ∃ y_ : List (S151), y_ = (x5_1 ++ [(⟨t358, t361⟩ : S151)]) := ⟨_, rfl⟩
              replace H : (impl_parseHeader.l0 kj7 l0 y362 x8_7) = some (r1, r2, r3) := zz2 hy362
              have Ny362 := aM hy362
              clear hy362
              have H' := aM H
              clear H
              obtain ⟨A45, hcut45, hA45, hC45⟩ := print_mid_of (P := Tryd.prog) (Value.int .u8) 0 27 5 .i64 .i64 Tryd.underlying27 hi045 hsz45 A0 c0 l0 x6_1 (wrap64 (x6_1 + x7_7)) (pI) (by first | omega | exact pI) (pI) HC0.out
              have HR353 := aM (Kd.C_of_reads (h1 := fun _ => rfl) (hA45 _ (Kd.reads_of_C HR0.out)))
              have HC353 := aM hC45
              clear hA45 hC45 hi045 hsz45
              have hcv46 := Kd.C_string (P := Tryd.prog) (A := A45) (c := (c0 - x6_1.toNat)) Tryd.underlying27 Tryd.underlying5 Tryd.underlying9 (Kd.C_below HR353.out HB.out)
              (try have hcd47 := fun nq_ : Nat => Kd.C_string (P := Tryd.prog) (A := A45) (c := (c0 - x6_1.toNat)) Tryd.underlying27 Tryd.underlying5 Tryd.underlying9 (Kd.C_drewN (Kd.C_below HR353.out HB.out) nq_))
              (try have hce47 := Kd.C_string (P := Tryd.prog) (A := A45) (c := (c0 - x6_1.toNat)) Tryd.underlying27 Tryd.underlying5 Tryd.underlying9 (Kd.C_below HR353.out HB.out))
              (try (have hln47 : ((l0.take ((wrap64 (x6_1 + x7_7)) : Int).toNat).drop (x6_1 : Int).toNat).length = ((wrap64 (x6_1 + x7_7)) : Int).toNat - (x6_1 : Int).toNat := zz34))
              (try rw [hln47] at hce47)
              (try simp only [hln47] at hcd47)
              (try clear hln47)
              have p22 : 0 ≤ (0 : Int) := (by omega)
              have q22 : 0 < (strOfNums ((l0.take ((wrap64 (x6_1 + x7_7)) : Int).toNat).drop (x6_1 : Int).toNat)).size := zz43
              have hx22 : ∀ h : 0 < (strOfNums ((l0.take ((wrap64 (x6_1 + x7_7)) : Int).toNat).drop (x6_1 : Int).toNat)).size, (((strOfNums ((l0.take ((wrap64 (x6_1 + x7_7)) : Int).toNat).drop (x6_1 : Int).toNat))[0]'h).toNat : Int) = bt (strOfNums ((l0.take ((wrap64 (x6_1 + x7_7)) : Int).toNat).drop (x6_1 : Int).toNat)) 0 := bt_at (strOfNums ((l0.take ((wrap64 (x6_1 + x7_7)) : Int).toNat).drop (x6_1 : Int).toNat)) 0
              clear p22
              have qi22 : (0 < ((strOfNums ((l0.take ((wrap64 (x6_1 + x7_7)) : Int).toNat).drop (x6_1 : Int).toNat)).size : Int)) = True := eq_true (pI)
              replace q22 := eq_true q22
              go_wp2_with (first | ((with_reducible refine gate_callee (f := 132) rfl ?_); refine gL_ (some 46) Tryd.func132 #[.int .u8 (bt (strOfNums ((l0.take ((wrap64 (x6_1 + x7_7)) : Int).toNat).drop (x6_1 : Int).toNat)) 0)] ?_; (with_reducible refine (impl_isBlank.calls (bt (strOfNums ((l0.take ((wrap64 (x6_1 + x7_7)) : Int).toNat).drop (x6_1 : Int).toNat)) 0) false _ A23.out).mono ?_); rintro e w' ⟨rfl, ⟨nd, rfl⟩⟩; refine ⟨_, rfl, ?_⟩) | ((with_reducible refine gate_callee (f := 133) rfl ?_); refine gL_ (some 63) Tryd.func133 #[.string (strOfNums ((l0.take ((wrap64 (x6_1 + x7_7)) : Int).toNat).drop (x6_1 : Int).toNat)), .string (⟨#[58]⟩ : ByteArray)] ?_; (with_reducible refine (strings_Cut.calls (strOfNums ((l0.take ((wrap64 (x6_1 + x7_7)) : Int).toNat).drop (x6_1 : Int).toNat)) (⟨#[58]⟩ : ByteArray) t358 t359 true _ A41.out).mono ?_); rintro e w' ⟨rfl, ⟨nd, rfl⟩⟩; refine ⟨_, rfl, ?_⟩) | ((with_reducible refine gate_callee (f := 134) rfl ?_); refine gL_ (some 72) Tryd.func134 #[.string t359, .string (⟨#[32]⟩ : ByteArray)] ?_; (with_reducible refine (strings_TrimPrefix.calls t359 (⟨#[32]⟩ : ByteArray) t361 _ A43.out).mono ?_); rintro e w' ⟨rfl, ⟨nd, rfl⟩⟩; refine ⟨_, rfl, ?_⟩) | ((with_reducible refine gate_builtin (b := .append) (xs := #[.tmp 69, .tmp 74]) rfl ?_); at_builtin; refine Kd.R_append k151 (w0 := w) w.heap.size rfl (.tmp 69) (.tmp 74) 128 151 (.agg #[(.string ⟨#[]⟩), (.string ⟨#[]⟩)]) 32 rfl Tryd.underlying128 info151 rfl (by decide) (by omega) u5 x5_1 (⟨t358, t361⟩ : S151) [.string t358, .string t361] (fun _ => True) (fun _ => False) rfl rfl ?aP (fun _ hk => hk.elim) ?aF ?aO ?aB ?aS ?aL ?_; (case aP => exact k151_mkM _ _ _ (⟨t358, t361⟩ : S151)); (case aB => exact bB); (case aF => exact (fun _ _ => trivial)); (case aO => exact (bR HO_5)); (case aS => exact (below_size bB)); (case aL => have := LMc44.out; omega); intro v363 w48 ho hb hg hat; rw [← Ny362.out] at ho; have n0_ := aM (hb); have n1_ := aM (ho); clear HB; clear HO_5; have HB := n0_; have HO364 := n1_; clear n0_ n1_; clear ho hb hg hat))
              go_roundg kj7
              case measure => have := HK1.out; have := HJ7.out; omega
              case rel => exact ⟨(y362), (x8_7), bS, H', ⟨zz53 HK1.out HJ7.out⟩, ⟨bR HO364⟩, ⟨bB⟩⟩
             rw [if_neg c44] at H
             exact absurd H (by simp)
            replace c42 := Bool.eq_false_iff.mpr c42
            subst c42
            have H1 : (some (([] : List (S151)), 0, false)) = some (r1, r2, r3) := zz15
            clear H
            have H := H1
            clear H1
            simp only [Option.some.injEq, Prod.mk.injEq] at H
            obtain ⟨rfl, rfl, rfl⟩ := H
            obtain ⟨A49, hcut49, hA49, hC49⟩ := print_mid_of (P := Tryd.prog) (Value.int .u8) 0 27 5 .i64 .i64 Tryd.underlying27 hi045 hsz45 A0 c0 l0 x6_1 (wrap64 (x6_1 + x7_7)) (pI) (by first | omega | exact pI) (pI) HC0.out
            have HR353 := aM (Kd.C_of_reads (h1 := fun _ => rfl) (hA49 _ (Kd.reads_of_C HR0.out)))
            have HC353 := aM hC49
            clear hA49 hC49 hi045 hsz45
            have hcv50 := Kd.C_string (P := Tryd.prog) (A := A49) (c := (c0 - x6_1.toNat)) Tryd.underlying27 Tryd.underlying5 Tryd.underlying9 (Kd.C_below HR353.out HB.out)
            (try have hcd51 := fun nq_ : Nat => Kd.C_string (P := Tryd.prog) (A := A49) (c := (c0 - x6_1.toNat)) Tryd.underlying27 Tryd.underlying5 Tryd.underlying9 (Kd.C_drewN (Kd.C_below HR353.out HB.out) nq_))
            (try have hce51 := Kd.C_string (P := Tryd.prog) (A := A49) (c := (c0 - x6_1.toNat)) Tryd.underlying27 Tryd.underlying5 Tryd.underlying9 (Kd.C_below HR353.out HB.out))
            (try (have hln51 : ((l0.take ((wrap64 (x6_1 + x7_7)) : Int).toNat).drop (x6_1 : Int).toNat).length = ((wrap64 (x6_1 + x7_7)) : Int).toNat - (x6_1 : Int).toNat := zz34))
            (try rw [hln51] at hce51)
            (try simp only [hln51] at hcd51)
            (try clear hln51)
            have p22 : 0 ≤ (0 : Int) := (by omega)
            have q22 : 0 < (strOfNums ((l0.take ((wrap64 (x6_1 + x7_7)) : Int).toNat).drop (x6_1 : Int).toNat)).size := zz43
            have hx22 : ∀ h : 0 < (strOfNums ((l0.take ((wrap64 (x6_1 + x7_7)) : Int).toNat).drop (x6_1 : Int).toNat)).size, (((strOfNums ((l0.take ((wrap64 (x6_1 + x7_7)) : Int).toNat).drop (x6_1 : Int).toNat))[0]'h).toNat : Int) = bt (strOfNums ((l0.take ((wrap64 (x6_1 + x7_7)) : Int).toNat).drop (x6_1 : Int).toNat)) 0 := bt_at (strOfNums ((l0.take ((wrap64 (x6_1 + x7_7)) : Int).toNat).drop (x6_1 : Int).toNat)) 0
            clear p22
            have qi22 : (0 < ((strOfNums ((l0.take ((wrap64 (x6_1 + x7_7)) : Int).toNat).drop (x6_1 : Int).toNat)).size : Int)) = True := eq_true (pI)
            replace q22 := eq_true q22
            go_wp2_with (first | ((with_reducible refine gate_callee (f := 132) rfl ?_); refine gL_ (some 46) Tryd.func132 #[.int .u8 (bt (strOfNums ((l0.take ((wrap64 (x6_1 + x7_7)) : Int).toNat).drop (x6_1 : Int).toNat)) 0)] ?_; (with_reducible refine (impl_isBlank.calls (bt (strOfNums ((l0.take ((wrap64 (x6_1 + x7_7)) : Int).toNat).drop (x6_1 : Int).toNat)) 0) false _ A23.out).mono ?_); rintro e w' ⟨rfl, ⟨nd, rfl⟩⟩; refine ⟨_, rfl, ?_⟩) | ((with_reducible refine gate_callee (f := 133) rfl ?_); refine gL_ (some 63) Tryd.func133 #[.string (strOfNums ((l0.take ((wrap64 (x6_1 + x7_7)) : Int).toNat).drop (x6_1 : Int).toNat)), .string (⟨#[58]⟩ : ByteArray)] ?_; (with_reducible refine (strings_Cut.calls (strOfNums ((l0.take ((wrap64 (x6_1 + x7_7)) : Int).toNat).drop (x6_1 : Int).toNat)) (⟨#[58]⟩ : ByteArray) t358 t359 false _ A41.out).mono ?_); rintro e w' ⟨rfl, ⟨nd, rfl⟩⟩; refine ⟨_, rfl, ?_⟩))
            go_ret3
            exact ⟨_, bE, zz38, bB⟩
           rw [if_neg c21] at H
           exact absurd H (by simp)
          rw [if_neg c13] at H
          exact absurd H (by simp)
         rw [if_neg c12] at H
         exact absurd H (by simp)
        rw [if_neg c11] at H
        exact absurd H (by simp)
     rw [if_neg c6] at H
     exact absurd H (by simp)
    rw [if_neg c5] at H
    exact absurd H (by simp)
   rw [if_neg c4] at H
   have c4b0 : decide (x6_1 < (l0.length : Int)) = false := decide_eq_false c4
   clear c4
   replace H := Option.bind_eq_some_iff.mp H
   obtain ⟨t350, A520, H⟩ := H
   replace H : (some (x5_1, x6_1, (t350 == 0))) = some (r1, r2, r3) := H
   have A52 := aM A520
   clear A520
   simp only [Option.some.injEq, Prod.mk.injEq] at H
   obtain ⟨rfl, rfl, rfl⟩ := H
   obtain ⟨Ao53, co53, eo53⟩ := Kd.R_slice HO_5.out
   subst eo53
   go_wp2_with (first | ((with_reducible refine gate_callee (f := 135) rfl ?_); refine gL_ (some 79) Tryd.func135 #[.slice Ao53 x5_1.length co53] ?_; (with_reducible refine (impl_FieldsFault.calls k1 _ _ x5_1 t350 _ ?side1 ?side2 A52.out).mono ?_); (case side1 => exact zz7 HO_5.out); (case side2 => exact (Kd.R_reads' HO_5.out).2.1); rintro e w54 ⟨rfl, hb⟩; refine ⟨_, rfl, ?_⟩; replace HO_5 := aM (Kd.R_below (bR HO_5) hb); replace HB := aM (below_step bB hb); (try clear hi)))
   go_ret3
   exact ⟨_, bE, bR HO_5, bB⟩
def impl_fieldOf.l0 : Nat → ByteArray → List (S151) → Int → Int → Option (ByteArray × Bool)
 | 0, _, _, _, _ => none
 | k + 1, x1, x8, x9, x10 => if x10 < x9 then (if 0 ≤ x10 then (if x10 < (x8.length : Int) then ((impl_small.f k ((rd_T151 x8 x10).f0)).bind fun t367 => ((impl_small.f k x1).bind fun t368 => (if t367.toList = t368.toList then (some ((rd_T151 x8 x10).f1, true)) else (impl_fieldOf.l0 k x1 x8 x9 (wrap64 (x10 + 1)))))) else (none)) else (none)) else (some ((⟨#[]⟩ : ByteArray), false))
def impl_fieldOf.f (k : Nat) (l0 : List (S151)) (a1 : ByteArray) : Option (ByteArray × Bool) := impl_fieldOf.l0 k a1 l0 (l0.length : Int) 0
set_option maxHeartbeats 8000000 in
set_option maxRecDepth 100000 in
theorem impl_fieldOf.calls (k : Nat) (A0 : Option Addr) (c0 : Nat) (l0 : List (S151)) (a1 : ByteArray) (r1 : ByteArray) (r2 : Bool) (w : World) (hr0 : Kd.C k151 w A0 l0.length l0) (hc0 : l0.length ≤ c0) (h : impl_fieldOf.f k l0 a1 = some (r1, r2)) :
  Calls Tryd.prog 109 #[.slice A0 l0.length c0, .string a1] w fun e w' => e = .returned (.tuple #[.string r1, .bool r2]) ∧ Below w.heap.size w w' := by
 have hu151 := Tryd.underlying151
 have HR0 := aM hr0
 have HC0 := aM hc0
 clear hr0 hc0
 have HB := aM (Below.refl w.heap.size w)
 have H : (impl_fieldOf.l0 k a1 l0 (l0.length : Int) 0) = some (r1, r2) := h
 clear h
 have H' := aM H
 clear H
 go_enter Tryd.func109, Tryd.ntmps109
 go_wp2
 go_loopg [10] k (fun kq v10 w' => ∃ (x10_1 : Int), v10 = .int .i64 x10_1 ∧ Aside0 (impl_fieldOf.l0 kq a1 l0 (l0.length : Int) x10_1 = some (r1, r2)) ∧ Aside0 (kq ≤ k) ∧ Aside0 (Below w.heap.size w w'))
 case atStart => exact ⟨(0), bS, H', ⟨Nat.le_refl _⟩, ⟨bB⟩⟩
 case round =>
  clear H'
  try clear c1
  try clear p2
  obtain ⟨x10_1, rfl, HA, HK1, HB⟩ := hrel
  cases gk with
  | zero => exact absurd HA.out (by simp [impl_fieldOf.l0])
  | succ k1 =>
   have H := HA.out
   clear HA
   simp only [impl_fieldOf.l0] at H
   by_cases c3 : x10_1 < (l0.length : Int)
   ·rw [if_pos c3] at H
    have c3b0 : decide (x10_1 < (l0.length : Int)) = true := decide_eq_true c3
    clear c3
    by_cases c4 : 0 ≤ x10_1
    ·rw [if_pos c4] at H
     have c4b0 : decide (0 ≤ x10_1) = true := decide_eq_true c4
     clear c4
     by_cases c5 : x10_1 < (l0.length : Int)
     ·rw [if_pos c5] at H
      have c5b0 : decide (x10_1 < (l0.length : Int)) = true := decide_eq_true c5
      clear c5
      replace H := Option.bind_eq_some_iff.mp H
      obtain ⟨t367, A60, H⟩ := H
      replace H : ((impl_small.f k1 a1).bind fun t368 => (if t367.toList = t368.toList then (some ((rd_T151 l0 x10_1).f1, true)) else (impl_fieldOf.l0 k1 a1 l0 (l0.length : Int) (wrap64 (x10_1 + 1))))) = some (r1, r2) := H
      have A6 := aM A60
      clear A60
      replace H := Option.bind_eq_some_iff.mp H
      obtain ⟨t368, A70, H⟩ := H
      replace H : (if t367.toList = t368.toList then (some ((rd_T151 l0 x10_1).f1, true)) else (impl_fieldOf.l0 k1 a1 l0 (l0.length : Int) (wrap64 (x10_1 + 1)))) = some (r1, r2) := H
      have A7 := aM A70
      clear A70
      by_cases c8 : t367.toList = t368.toList
      ·rw [if_pos c8] at H
       have c8b0 : (t367.toList == t368.toList) = true := beq_iff_eq.mpr c8
       have c8b1 : (t367.toList != t368.toList) = false := bne_eq_false_iff_eq.mpr c8
       clear c8
       simp only [Option.some.injEq, Prod.mk.injEq] at H
       obtain ⟨rfl, rfl⟩ := H
       have p365 : 0 ≤ (x10_1 : Int) := pI
       have q365 : x10_1 < (l0.length : Int) := pI
       obtain ⟨ad365, e365, hx365_0, hx365_1⟩ := at_T151 HR0.out x10_1 p365 q365
       cases e365
       replace hx365_0 := (HB.out.cell (World.block_lt_of_cell? w _ hx365_0)).trans hx365_0
       replace hx365_1 := (HB.out.cell (World.block_lt_of_cell? w _ hx365_1)).trans hx365_1
       replace p365 := eq_true p365
       replace q365 := eq_true q365
       go_wp2_with (first | ((with_reducible refine gate_dst (N := 7) rfl ?_); refine box_event ?hg (N := 7) ?hd (cs := #[.string (⟨#[]⟩ : ByteArray), .string (⟨#[]⟩ : ByteArray)]) (t := 151) ?hr ?_; (case hd => rfl); (case hg => rfl); (case hr => exact zz13); intro gb366 hg w9 hbox hb; have BK366 := aM (hbox); have GW366 := aM ((zz18 : w.heap.size ≤ gb366)); have GE366 := aM ((zz18 : w.heap.size ≤ gb366)); replace HB := aM (below_step bB hb); clear hb hbox hg; have hcz10_0 : w9.cell? ⟨gb366, 0, none⟩ = some (.string (⟨#[]⟩ : ByteArray)) := (blk_cell BK366.out 0).trans rfl; have hcz10_1 : w9.cell? ⟨gb366, 1, none⟩ = some (.string (⟨#[]⟩ : ByteArray)) := (blk_cell BK366.out 1).trans rfl; have hfz10_0 := blk_frozen BK366.out 0; have hfz10_1 := blk_frozen BK366.out 1) | ((with_reducible refine gate_callee (f := 42) rfl ?_); refine gL_ (some 16) Tryd.func42 #[.string ((rd_T151 l0 x10_1).f0)] ?_; (with_reducible refine (impl_small.calls k1 ((rd_T151 l0 x10_1).f0) t367 _ A6.out).mono ?_); rintro e w11 ⟨rfl, hb⟩; refine ⟨_, rfl, ?_⟩; replace BK366 := aM (blk_below (g := gb366) (o := .cells #[.string ((rd_T151 l0 x10_1).f0), .string ((rd_T151 l0 x10_1).f1)] 151 (0, 0)) (zz16 BK366.out) hb); replace HB := aM (below_step (bG GE366) hb); (try clear hi)) | ((with_reducible refine gate_callee (f := 42) rfl ?_); refine gL_ (some 18) Tryd.func42 #[.string a1] ?_; (with_reducible refine (impl_small.calls k1 a1 t368 _ A7.out).mono ?_); rintro e w12 ⟨rfl, hb⟩; refine ⟨_, rfl, ?_⟩; replace BK366 := aM (blk_below (g := gb366) (o := .cells #[.string ((rd_T151 l0 x10_1).f0), .string ((rd_T151 l0 x10_1).f1)] 151 (0, 0)) (bL BK366) hb); replace HB := aM (below_step (bG GE366) hb); have hcz13_0 : w12.cell? ⟨gb366, 0, none⟩ = some (.string ((rd_T151 l0 x10_1).f0)) := (blk_cell BK366.out 0).trans rfl; have hcz13_1 : w12.cell? ⟨gb366, 1, none⟩ = some (.string ((rd_T151 l0 x10_1).f1)) := (blk_cell BK366.out 1).trans rfl; have hfz13_0 := blk_frozen BK366.out 0; have hfz13_1 := blk_frozen BK366.out 1))
       go_ret2
       exact ⟨bE, bG GE366⟩
      rw [if_neg c8] at H
      have c8b0 : (t367.toList == t368.toList) = false := beq_eq_false_iff_ne.mpr c8
      have c8b1 : (t367.toList != t368.toList) = true := bne_iff_ne.mpr c8
      have H' := aM H
      clear H
      have p365 : 0 ≤ (x10_1 : Int) := pI
      have q365 : x10_1 < (l0.length : Int) := pI
      obtain ⟨ad365, e365, hx365_0, hx365_1⟩ := at_T151 HR0.out x10_1 p365 q365
      cases e365
      replace hx365_0 := (HB.out.cell (World.block_lt_of_cell? w _ hx365_0)).trans hx365_0
      replace hx365_1 := (HB.out.cell (World.block_lt_of_cell? w _ hx365_1)).trans hx365_1
      replace p365 := eq_true p365
      replace q365 := eq_true q365
      go_wp2_with (first | ((with_reducible refine gate_dst (N := 7) rfl ?_); refine box_event ?hg (N := 7) ?hd (cs := #[.string (⟨#[]⟩ : ByteArray), .string (⟨#[]⟩ : ByteArray)]) (t := 151) ?hr ?_; (case hd => rfl); (case hg => rfl); (case hr => exact zz13); intro gb366 hg w14 hbox hb; have BK366 := aM (hbox); have GW366 := aM ((zz18 : w.heap.size ≤ gb366)); have GE366 := aM ((zz18 : w.heap.size ≤ gb366)); replace HB := aM (below_step bB hb); clear hb hbox hg; have hcz15_0 : w14.cell? ⟨gb366, 0, none⟩ = some (.string (⟨#[]⟩ : ByteArray)) := (blk_cell BK366.out 0).trans rfl; have hcz15_1 : w14.cell? ⟨gb366, 1, none⟩ = some (.string (⟨#[]⟩ : ByteArray)) := (blk_cell BK366.out 1).trans rfl; have hfz15_0 := blk_frozen BK366.out 0; have hfz15_1 := blk_frozen BK366.out 1) | ((with_reducible refine gate_callee (f := 42) rfl ?_); refine gL_ (some 16) Tryd.func42 #[.string ((rd_T151 l0 x10_1).f0)] ?_; (with_reducible refine (impl_small.calls k1 ((rd_T151 l0 x10_1).f0) t367 _ A6.out).mono ?_); rintro e w16 ⟨rfl, hb⟩; refine ⟨_, rfl, ?_⟩; replace BK366 := aM (blk_below (g := gb366) (o := .cells #[.string ((rd_T151 l0 x10_1).f0), .string ((rd_T151 l0 x10_1).f1)] 151 (0, 0)) (zz16 BK366.out) hb); replace HB := aM (below_step (bG GE366) hb); (try clear hi)) | ((with_reducible refine gate_callee (f := 42) rfl ?_); refine gL_ (some 18) Tryd.func42 #[.string a1] ?_; (with_reducible refine (impl_small.calls k1 a1 t368 _ A7.out).mono ?_); rintro e w17 ⟨rfl, hb⟩; refine ⟨_, rfl, ?_⟩; replace BK366 := aM (blk_below (g := gb366) (o := .cells #[.string ((rd_T151 l0 x10_1).f0), .string ((rd_T151 l0 x10_1).f1)] 151 (0, 0)) (bL BK366) hb); replace HB := aM (below_step (bG GE366) hb); (try clear hi)))
      go_roundg k1
      case measure => have := HK1.out; omega
      case rel => exact ⟨(wrap64 (x10_1 + 1)), bS, H', ⟨by have := HK1.out; omega⟩, ⟨bG GE366⟩⟩
     rw [if_neg c5] at H
     exact absurd H (by simp)
    rw [if_neg c4] at H
    exact absurd H (by simp)
   rw [if_neg c3] at H
   have c3b0 : decide (x10_1 < (l0.length : Int)) = false := decide_eq_false c3
   clear c3
   simp only [Option.some.injEq, Prod.mk.injEq] at H
   obtain ⟨rfl, rfl⟩ := H
   go_wp2
   go_ret2
   exact ⟨bE, bB⟩
end Go.Proofs.YtecpanfndodjgaaDoor.PPartAt
