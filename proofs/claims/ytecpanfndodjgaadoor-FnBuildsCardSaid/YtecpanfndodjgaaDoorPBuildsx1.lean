/- Part of the proof; words that it uses. -/
import Derived.Test.YtecpanfndodjgaaDoorPBuildsx0
namespace Go.Proofs.YtecpanfndodjgaaDoor.PBuilds
set_option maxHeartbeats 8000000
set_option maxRecDepth 100000
open Go.RowKit Go.Proofs.YtecpanfndodjgaaDoorW.PrintWords Go.Proofs.YtecpanfndodjgaaDoorW.PrintLast Go.Proofs.YtecpanfndodjgaaDoorW.PrintMore
attribute [local go_sem] max2_int max_two
set_option linter.unusedVariables false
set_option linter.unusedSimpArgs false
def impl_pieces_1.f (a0 : Int) : Option (Bool) := some (a0 == 59)
theorem impl_pieces_1.calls (a0 : Int) (r : Bool) (w : World) (h : impl_pieces_1.f a0 = some r) :
  Calls Tryd.prog 78 #[.int .i32 a0] w fun e w' => e = .returned (.bool r) ∧ Drawn0 w w' := by
 have H : (some (a0 == 59)) = some r := h; clear h; obtain rfl := Option.some.inj H; go_enter Tryd.func78, Tryd.ntmps78; go_wp2; go_ret; exact ⟨bS, zz10⟩
open Go.Shelf in
def strings_FieldsFunc.sh_lays229_ren : Go.Shelf.Ren := ⟨fun | 229 => 77 | n => n, fun | 9 => 9 | 40 => 90 | 31 => 61 | 152 => 112 | 3 => 3 | 0 => 0 | 4 => 4 | 21 => 21 | 154 => 114 | n => n, fun | n => n⟩
open Go.Shelf in
theorem strings_FieldsFunc.sh_lays229 : Go.Proofs.Lays.n229 Tryd.prog strings_FieldsFunc.sh_lays229_ren := {
  mixed := by kernel_rfl
  f229 := Tryd.func77.trans (congrArg some (by kernel_rfl))
  t0 := Tryd.underlying0
  a0 := Tryd.isAgg0
  z0 := Tryd.sizeOf0
  v0 := Tryd.zeroValue0
  t3 := Tryd.underlying3
  a3 := Tryd.isAgg3
  z3 := Tryd.sizeOf3
  v3 := Tryd.zeroValue3
  t4 := Tryd.underlying4
  a4 := Tryd.isAgg4
  z4 := Tryd.sizeOf4
  v4 := Tryd.zeroValue4
  t9 := Tryd.underlying9
  a9 := Tryd.isAgg9
  z9 := Tryd.sizeOf9
  v9 := Tryd.zeroValue9
  t21 := Tryd.underlying21
  a21 := Tryd.isAgg21
  z21 := Tryd.sizeOf21
  v21 := Tryd.zeroValue21
  t31 := Tryd.underlying61
  a31 := Tryd.isAgg61
  z31 := Tryd.sizeOf61
  v31 := Tryd.zeroValue61
  t40 := Tryd.underlying90
  a40 := Tryd.isAgg90
  z40 := Tryd.sizeOf90
  v40 := Tryd.zeroValue90
  t152 := Tryd.underlying112
  a152 := Tryd.isAgg112
  z152 := Tryd.sizeOf112
  v152 := Tryd.zeroValue112
  t154 := Tryd.underlying114
  a154 := Tryd.isAgg114
  z154 := Tryd.sizeOf114
  v154 := Tryd.zeroValue114 }
open Go.Shelf in
open Go.RowKit Go.Lib in
theorem strings_FieldsFunc.sh_strings_FieldsFunc_runes (g : Nat) (lb : Array Value) (eg : ∀ args w, (callFunc g args).run Tryd.prog w = .ok (.enter g args) w) (p : Nat → Bool) (s : ByteArray) (w : World) (hs : s.size ≤ 4294967296) (hp : PredAtRunes Tryd.prog g lb p w) :
    Calls Tryd.prog 77 #[.string s, .func (.func g) #[] lb] w fun e w' => ∃ A, e = .returned (.slice (some ⟨A, 0, none⟩) (Lib.goFieldsP p s).length (Lib.goFieldsP p s).length) ∧ w.heap.size ≤ A ∧
      w'.ownsRow w.heap.size 9 1 (.slice (some ⟨A, 0, none⟩) (Lib.goFieldsP p s).length (Lib.goFieldsP p s).length) (Lib.goFieldsP p s).length ((Lib.goFieldsP p s).map Value.string) ∧ Below w.heap.size w w' := Any.strings_FieldsFunc_runes strings_FieldsFunc.sh_lays229 g lb eg p s w hs hp (by kernel_rfl) (by kernel_rfl)
theorem strings_FieldsFunc.reps {W : World} {base : Nat} {ok : Nat → Prop} : ∀ xs : List ByteArray, Reps (Kd.string.M W base ok) Kd.string.sz xs (xs.map Value.string)
  | [] => Reps.none _ _
  | x :: r => Reps.one (show Kd.M Kd.string W base ok x [.string x] from rfl) (strings_FieldsFunc.reps r)
def strings_FieldsFunc.f (a0 : ByteArray) : Option (List ByteArray) := if a0.size ≤ 4294967296 then some (Lib.goFieldsP (fun n => n == 59) a0) else none
theorem strings_FieldsFunc.calls (a0 : ByteArray) (r : List ByteArray) (w : World) (h : strings_FieldsFunc.f a0 = some r) :
    Calls Tryd.prog 77 #[.string a0, .func (.func 78) #[] #[]] w fun e w' => ∃ v0_ : Value, e = .returned (v0_) ∧ Kd.R Kd.string 9 w' w.heap.size (fun _ => True) v0_ r ∧ Below w.heap.size w w' := by
  unfold strings_FieldsFunc.f at h; by_cases h0 : a0.size ≤ 4294967296
  · rw [if_pos h0] at h; cases h; refine (strings_FieldsFunc.sh_strings_FieldsFunc_runes 78 #[] (fun args w => enters_ Tryd.func78 (by kernel_rfl) rfl args w) (fun n => n == 59) a0 w h0 ?_).mono ?_
    · intro W x _ _; have e : ((x : Int) == 59) = (x == 59) := by rw [Bool.eq_iff_iff, beq_iff_eq, beq_iff_eq]; omega
      refine (impl_pieces_1.calls (x : Int) (x == 59) W (by rw [impl_pieces_1.f, e])).mono ?_; rintro e w' ⟨rfl, n, rfl⟩; exact ⟨rfl, n, rfl⟩
    rintro e w' ⟨A, rfl, _, ho, hb⟩; exact ⟨_, rfl, ⟨fun _ _ => trivial, _, World.ownsRowT_of ho, strings_FieldsFunc.reps _⟩, hb⟩
  rw [if_neg h0] at h; cases h
open Go.Shelf in
def strings_Trim.sh_lays160_ren : Go.Shelf.Ren := ⟨fun | 160 => 79 | 232 => 100 | 231 => 99 | 227 => 101 | 234 => 103 | 233 => 102 | 236 => 105 | 235 => 104 | 228 => 121 | 271 => 124 | 151 => 123 | 197 => 122 | 120 => 141 | 152 => 140 | 260 => 139 | 137 => 147 | 119 => 148 | 224 => 119 | 225 => 149 | 217 => 155 | 266 => 158 | n => n, fun | 9 => 9 | 4 => 4 | 3 => 3 | 5 => 5 | 117 => 118 | 116 => 117 | 0 => 0 | 124 => 121 | 21 => 21 | 105 => 144 | 46 => 142 | 119 => 162 | 139 => 165 | 138 => 164 | n => n, fun | 3 => 1 | 4 => 2 | n => n⟩
open Go.Shelf in
theorem strings_Trim.sh_lays160 : Go.Proofs.Lays.n160 Tryd.prog strings_Trim.sh_lays160_ren := {
  mixed := by kernel_rfl
  f119 := Tryd.func148.trans (congrArg some (by kernel_rfl))
  f120 := Tryd.func141.trans (congrArg some (by kernel_rfl))
  f137 := Tryd.func147.trans (congrArg some (by kernel_rfl))
  f151 := Tryd.func123.trans (congrArg some (by kernel_rfl))
  f152 := Tryd.func140.trans (congrArg some (by kernel_rfl))
  f160 := Tryd.func79.trans (congrArg some (by kernel_rfl))
  f197 := Tryd.func122.trans (congrArg some (by kernel_rfl))
  f217 := Tryd.func155.trans (congrArg some (by kernel_rfl))
  f224 := Tryd.func119.trans (congrArg some (by kernel_rfl))
  f225 := Tryd.func149.trans (congrArg some (by kernel_rfl))
  f227 := Tryd.func101.trans (congrArg some (by kernel_rfl))
  f228 := Tryd.func121.trans (congrArg some (by kernel_rfl))
  f231 := Tryd.func99.trans (congrArg some (by kernel_rfl))
  f232 := Tryd.func100.trans (congrArg some (by kernel_rfl))
  f233 := Tryd.func102.trans (congrArg some (by kernel_rfl))
  f234 := Tryd.func103.trans (congrArg some (by kernel_rfl))
  f235 := Tryd.func104.trans (congrArg some (by kernel_rfl))
  f236 := Tryd.func105.trans (congrArg some (by kernel_rfl))
  f260 := Tryd.func139.trans (congrArg some (by kernel_rfl))
  f266 := Tryd.func158.trans (congrArg some (by kernel_rfl))
  f271 := Tryd.func124.trans (congrArg some (by kernel_rfl))
  t0 := Tryd.underlying0
  a0 := Tryd.isAgg0
  z0 := Tryd.sizeOf0
  v0 := Tryd.zeroValue0
  t3 := Tryd.underlying3
  a3 := Tryd.isAgg3
  z3 := Tryd.sizeOf3
  v3 := Tryd.zeroValue3
  t4 := Tryd.underlying4
  a4 := Tryd.isAgg4
  z4 := Tryd.sizeOf4
  v4 := Tryd.zeroValue4
  t5 := Tryd.underlying5
  a5 := Tryd.isAgg5
  z5 := Tryd.sizeOf5
  v5 := Tryd.zeroValue5
  t9 := Tryd.underlying9
  a9 := Tryd.isAgg9
  z9 := Tryd.sizeOf9
  v9 := Tryd.zeroValue9
  t21 := Tryd.underlying21
  a21 := Tryd.isAgg21
  z21 := Tryd.sizeOf21
  v21 := Tryd.zeroValue21
  t46 := Tryd.underlying142
  a46 := Tryd.isAgg142
  z46 := Tryd.sizeOf142
  v46 := Tryd.zeroValue142
  t105 := Tryd.underlying144
  a105 := Tryd.isAgg144
  z105 := Tryd.sizeOf144
  v105 := Tryd.zeroValue144
  t116 := Tryd.underlying117
  a116 := Tryd.isAgg117
  z116 := Tryd.sizeOf117
  t117 := Tryd.underlying118
  a117 := Tryd.isAgg118
  z117 := Tryd.sizeOf118
  v117 := Tryd.zeroValue118
  t119 := Tryd.underlying162
  a119 := Tryd.isAgg162
  z119 := Tryd.sizeOf162
  t124 := Tryd.underlying121
  a124 := Tryd.isAgg121
  z124 := Tryd.sizeOf121
  v124 := Tryd.zeroValue121
  t138 := Tryd.underlying164
  a138 := Tryd.isAgg164
  z138 := Tryd.sizeOf164
  v138 := Tryd.zeroValue164
  t139 := Tryd.underlying165
  a139 := Tryd.isAgg165
  z139 := Tryd.sizeOf165
  v139 := Tryd.zeroValue165
  g3 := by kernel_rfl
  g4 := by kernel_rfl }
def strings_Trim.f (a0 : ByteArray) (a1 : ByteArray) : Option ByteArray := if a0.size ≤ 9223372036854775807 ∧ a1.size < 4294967281 ∧ a1.data.toList.all (fun b => decide (b.toNat < 128)) = true then some ⟨(Lib.trimS a0.data.toList a1.data.toList).toArray⟩ else none
theorem strings_Trim.calls (a0 : ByteArray) (a1 : ByteArray) (r : ByteArray) (w : World) (h : strings_Trim.f a0 a1 = some r) :
    Calls Tryd.prog 79 #[.string a0, .string a1] w fun e w' => e = .returned (.string r) ∧ Below w.heap.size w w' := by
  unfold strings_Trim.f at h; by_cases h1 : a0.size ≤ 9223372036854775807 ∧ a1.size < 4294967281 ∧ a1.data.toList.all (fun b => decide (b.toNat < 128)) = true
  · rw [if_pos h1] at h; cases h; exact Any.strings_Trim_laid strings_Trim.sh_lays160 (by kernel_rfl) a0 a1 w h1.1 h1.2.1 (ascii_of_all h1.2.2)
  rw [if_neg h1] at h; cases h
def impl_pieces.l0 : Nat → List ByteArray → List ByteArray → Int → Int → Option (List ByteArray)
 | 0, _, _, _, _ => none
 | k + 1, x3, x8, x9, x10 => if x10 < x9 then (if 0 ≤ x10 then (if x10 < (x8.length : Int) then ((strings_Trim.f (rdOf ByteArray.empty x8 x10) (⟨#[32, 9]⟩ : ByteArray)).bind fun t108 => (if x3.length < 8796093022208 then (impl_pieces.l0 k (x3 ++ [t108]) x8 x9 (wrap64 (x10 + 1))) else (none))) else (none)) else (none)) else (some x3)
def impl_pieces.f (k : Nat) (a0 : ByteArray) : Option (List ByteArray) := (strings_FieldsFunc.f a0).bind fun t104 => (impl_pieces.l0 k (([] : List ByteArray)) t104 (t104.length : Int) 0)
theorem impl_pieces.mono_l : ∀ k, (∀ y0 y1 y2 y3, LeO (impl_pieces.l0 k y0 y1 y2 y3) (impl_pieces.l0 (k + 1) y0 y1 y2 y3))
 | 0 => fun _ _ _ _ r h => by simp [impl_pieces.l0] at h
 | k + 1 => by
  have ih0 := impl_pieces.mono_l k
  ·intro y0 y1 y2 y3
   unfold impl_pieces.l0
   with_reducible repeat' first | exact ih0 _ _ _ _ | exact LeO.refl _ | exact LeO.none _ | refine LeO.ite ?_ ?_ | refine LeO.bind ?_ (fun _ => ?_)
theorem impl_pieces.mono : ∀ a0 k, LeO (impl_pieces.f k a0) (impl_pieces.f (k + 1) a0) := by
 intro a0 k
 have ih0 := impl_pieces.mono_l k
 unfold impl_pieces.f
 with_reducible repeat' first | exact ih0 _ _ _ _ | exact LeO.refl _ | exact LeO.none _ | refine LeO.ite ?_ ?_ | refine LeO.bind ?_ (fun _ => ?_)
theorem impl_pieces.calls (k : Nat) (a0 : ByteArray) (r : List ByteArray) (w : World) (h : impl_pieces.f k a0 = some r) :
  Calls Tryd.prog 41 #[.string a0] w fun e w' => ∃ v0_ : Value, e = .returned (v0_) ∧ Kd.R Kd.string 9 w' w.heap.size (fun _ => True) v0_ r ∧ Below w.heap.size w w' := by
 have HB := aM (Below.refl w.heap.size w); have H : ((strings_FieldsFunc.f a0).bind fun t104 => (impl_pieces.l0 k (([] : List ByteArray)) t104 (t104.length : Int) 0)) = some r := h; clear h; obtain ⟨y101, hy101⟩ : ∃ y_ : List ByteArray, y_ = (([] : List ByteArray)) := ⟨_, rfl⟩; replace H : ((strings_FieldsFunc.f a0).bind fun t104 => (impl_pieces.l0 k y101 t104 (t104.length : Int) 0)) = some r := zz0 hy101; have Ny101 := aM hy101; clear hy101; replace H := oB H; obtain ⟨t104, A2, H⟩ := H; try dsimp only at H
 have H' := aM H; clear H; go_enter Tryd.func41, Tryd.ntmps41; go_wp2_with (first | ((with_reducible refine gate_dst (N := 6) rfl ?_); refine Kd.R_lit Kd.string _ 9 ?hg (N := 6) ?hd (xs := ([] : List ByteArray)) (inner := []) (ok := fun _ => True) (okp := fun _ => True) ?hr ?hp (fun _ hk => hk) trivial (Below.refl _ _) (Nat.le_refl _) (by simp) ?_; (case hd => rfl); (case hg => rfl); (case hr => exact zz13); (case hp => exact (Reps.none _ _)); intro v102 w3 ho4 hb hg_ hnew_; clear hg_ hnew_; (first | rw [← Ny101.out] at ho4 | (simp only [Int.reduceToNat] at ho4; rw [← Ny101.out] at ho4)); have HO103 := aM (Kd.R_lower ho4 (below_size bB)); replace HB := aM (below_step bB hb); clear hb ho4) | ((with_reducible refine gC 77 rfl ?_); refine gL_ (some 8) Tryd.func77 #[.string a0, .func (.func 78) #[] #[]] ?_; (with_reducible refine (strings_FieldsFunc.calls a0 t104 _ A2.out).mono ?_); rintro e w5 ⟨v105, rfl, ho0, hb⟩; refine ⟨_, rfl, ?_⟩; have HO106 := aM (Kd.R_lower (Kd.R_new' ho0 (Kd.R_lt (bR HO103))) (below_size bB)); replace HO103 := aM (Kd.R_elder' (bR HO103) (Kd.R_base ho0) hb); replace HB := aM (below_step bB hb); (try clear ho0); obtain ⟨Ao6, co6, eo6⟩ := Kd.R_slice HO106.out; subst eo6)); go_loopg [3, 10] k (fun kq v3 v10 w' => ∃ (x3_1 : List ByteArray) (x10_1 : Int), v10 = .int .i64 x10_1 ∧ Aside0 (impl_pieces.l0 kq x3_1 t104 (t104.length : Int) x10_1 = some r) ∧ Aside0 (kq ≤ k) ∧ Aside0 (Kd.R Kd.string 9 w' w.heap.size (fun k_ => some k_ ≠ ((.slice Ao6 t104.length co6) : Value).ownBlock) v3 x3_1) ∧ Aside0 (Kd.R Kd.string 9 w' w.heap.size (fun k_ => some k_ ≠ (v3 : Value).ownBlock) (.slice Ao6 t104.length co6) t104) ∧ Aside0 (Below w.heap.size w w'))
 case atStart => exact ⟨(y101), (0), bS, H', ⟨Nat.le_refl _⟩, ⟨zz19 HO103.out⟩, ⟨zz19 HO106.out⟩, ⟨bB⟩⟩
 case round =>
  clear H'; obtain ⟨x3_1, x10_1, rfl, HA, HK1, HO_3, HO_8, HB⟩ := hrel
  cases gk with
  | zero => exact absurd HA.out (by simp [impl_pieces.l0])
  | succ k1 =>
   have H := HA.out; clear HA; simp only [impl_pieces.l0] at H; by_cases c7 : x10_1 < (t104.length : Int)
   ·rw [if_pos c7] at H; have c7b0 := decide_eq_true c7; clear c7; by_cases c8 : 0 ≤ x10_1
    ·rw [if_pos c8] at H; have c8b0 := decide_eq_true c8; clear c8; by_cases c9 : x10_1 < (t104.length : Int)
     ·rw [if_pos c9] at H; have c9b0 := decide_eq_true c9; clear c9; replace H := oB H; obtain ⟨t108, A10, H⟩ := H; try dsimp only at H
      by_cases c11 : x3_1.length < 8796093022208
      ·rw [if_pos c11] at H; have LMc11 := aM c11; clear c11; obtain ⟨y109, hy109⟩ : ∃ y_ : List ByteArray, y_ = (x3_1 ++ [t108]) := ⟨_, rfl⟩; replace H : (impl_pieces.l0 k1 y109 t104 (t104.length : Int) (wrap64 (x10_1 + 1))) = some r := zz0 hy109; have Ny109 := aM hy109; clear hy109; have H' := aM H; clear H; have p107 : 0 ≤ (x10_1 : Int) := pI; have q107 : x10_1 < (t104.length : Int) := pI; obtain ⟨ad107, e107, hx107_0⟩ := Kd.at_string (Kd.R_reads' HO_8.out).2.2 x10_1 p107 q107; cases e107; replace p107 := eq_true p107; replace q107 := eq_true q107; go_wp2_with (first | ((with_reducible refine gC 79 rfl ?_); refine gL_ (some 16) Tryd.func79 #[.string (rdOf ByteArray.empty t104 x10_1), .string (⟨#[32, 9]⟩ : ByteArray)] ?_; (with_reducible refine (strings_Trim.calls (rdOf ByteArray.empty t104 x10_1) (⟨#[32, 9]⟩ : ByteArray) t108 _ A10.out).mono ?_); rintro e w12 ⟨rfl, hb⟩; refine ⟨_, rfl, ?_⟩; replace HO_3 := aM (Kd.R_below (bR HO_3) hb); replace HO_8 := aM (Kd.R_below (bR HO_8) hb); replace HB := aM (below_step bB hb); (try clear hi)) | ((with_reducible refine gate_builtin (b := .append) (xs := #[.tmp 14, .tmp 17]) rfl ?_); at_builtin; refine Kd.R_append Kd.string (w0 := w) w.heap.size rfl (.tmp 14) (.tmp 17) 61 9 (.string ⟨#[]⟩) 16 rfl Tryd.underlying61 info9 rfl (by decide) (by omega) u3 x3_1 t108 [.string t108] (fun k_ => some k_ ≠ (.slice (some ad107) t104.length co6 : Value).ownBlock) (fun _ => False) rfl rfl ?aP (fun _ hk => hk.elim) ?aF ?aO ?aB ?aS ?aL ?_; (case aP => exact rfl); (case aB => exact bB); (case aF => exact (fun k_ hk => Kd.fresh' (Kd.R_lt (bR HO_8)) k_ hk)); (case aO => exact (bR HO_3)); (case aS => exact (below_size bB)); (case aL => have := LMc11.out; omega); intro v110 w13 ho hb hg hat; rw [← Ny109.out] at ho; have n0_ := aM (Kd.R_after (ok := (fun _ => True)) (zz52 HO_8.out) hg hat); have n1_ := aM hb; have n2_ := aM ho; clear HO_8; clear HB; clear HO_3; have HO_8 := n0_; have HB := n1_; have HO111 := n2_; clear n0_ n1_ n2_; clear ho hb hg hat)); go_roundg k1
       case measure => have := HK1.out; omega
       case rel => exact ⟨(y109), (wrap64 (x10_1 + 1)), bS, H', ⟨by have := HK1.out; omega⟩, ⟨bR HO111⟩, ⟨zz19 HO_8.out⟩, ⟨bB⟩⟩
      rw [if_neg c11] at H; exact aB H
     rw [if_neg c9] at H; exact aB H
    rw [if_neg c8] at H; exact aB H
   rw [if_neg c7] at H; have c7b0 := decide_eq_false c7; clear c7; obtain rfl := Option.some.inj H; go_wp2; go_ret; exact ⟨_, bE, zz17 HO_3.out, bB⟩
def impl_small.l0 : Nat → List Int → Int → Int → Option (ByteArray)
 | 0, _, _, _ => none
 | k + 1, x3, x9, x10 => if x10 < x9 then (if 0 ≤ x10 then (if x10 < (x3.length : Int) then (if (rd x3 x10) ≥ 65 then (if (rd x3 x10) ≤ 90 then (impl_small.l0 k (x3.set (x10 : Int).toNat (((rd x3 x10) + 32) % 256)) x9 (wrap64 (x10 + 1))) else (impl_small.l0 k x3 x9 (wrap64 (x10 + 1)))) else (impl_small.l0 k x3 x9 (wrap64 (x10 + 1)))) else (none)) else (none)) else (some (strOfNums x3))
def impl_small.f (k : Nat) (a0 : ByteArray) : Option (ByteArray) := if a0.size ≤ 281474976710656 then ((some (bytesOf a0 : List Int)).bind fun y112 => (impl_small.l0 k y112 (y112.length : Int) 0)) else (none)
theorem impl_small.mono_l : ∀ k, (∀ y0 y1 y2, LeO (impl_small.l0 k y0 y1 y2) (impl_small.l0 (k + 1) y0 y1 y2))
 | 0 => fun _ _ _ r h => by simp [impl_small.l0] at h
 | k + 1 => by
  have ih0 := impl_small.mono_l k
  ·intro y0 y1 y2
   unfold impl_small.l0
   with_reducible repeat' first | exact ih0 _ _ _ | exact LeO.refl _ | exact LeO.none _ | refine LeO.ite ?_ ?_ | refine LeO.bind ?_ (fun _ => ?_)
theorem impl_small.mono : ∀ a0 k, LeO (impl_small.f k a0) (impl_small.f (k + 1) a0) := by
 intro a0 k
 have ih0 := impl_small.mono_l k
 unfold impl_small.f
 with_reducible repeat' first | exact ih0 _ _ _ | exact LeO.refl _ | exact LeO.none _ | refine LeO.ite ?_ ?_ | refine LeO.bind ?_ (fun _ => ?_)
theorem impl_small.calls (k : Nat) (a0 : ByteArray) (r : ByteArray) (w : World) (h : impl_small.f k a0 = some r) :
  Calls Tryd.prog 42 #[.string a0] w fun e w' => e = .returned (.string r) ∧ Below w.heap.size w w' := by
 have HB := aM (Below.refl w.heap.size w); have H : (if a0.size ≤ 281474976710656 then ((some (bytesOf a0 : List Int)).bind fun y112 => (impl_small.l0 k y112 (y112.length : Int) 0)) else (none)) = some r := h; clear h; by_cases c2 : a0.size ≤ 281474976710656
 ·rw [if_pos c2] at H; have c2b0 := eq_true c2; have c2b1 := decide_eq_true c2; clear c2; obtain ⟨y112, hy112⟩ : ∃ y_ : List Int, y_ = (bytesOf a0) := ⟨_, rfl⟩; replace H : (impl_small.l0 k y112 (y112.length : Int) 0) = some r := zz0 hy112; have Ny112 := aM hy112; clear hy112; have H' := aM H; clear H; go_enter Tryd.func42, Tryd.ntmps42; go_wp2_with (first | ((with_reducible refine gate_dst (N := 7) rfl ?_); refine Kd.R_conv _ 5 rfl (N := 7) rfl 9 27 _ rfl a0 rfl Tryd.underlying9 Tryd.underlying27 Tryd.underlying5 (ok := fun _ => True) trivial (pI) (Below.refl _ _) (Nat.le_refl _) ?_; intro v113 w3 ho4 hb hg_ hnew_; clear hg_ hnew_; (first | rw [← Ny112.out] at ho4 | (simp only [Int.reduceToNat] at ho4; rw [← Ny112.out] at ho4)); have HO114 := aM (Kd.R_lower ho4 (below_size bB)); replace HB := aM (below_step bB hb); clear hb ho4; obtain ⟨Ao5, co5, eo5⟩ := Kd.R_slice HO114.out; subst eo5)); go_loopg [10] k (fun kq v10 w' => ∃ (x3_1 : List Int) (x10_1 : Int), v10 = .int .i64 x10_1 ∧ Aside0 (impl_small.l0 kq x3_1 (y112.length : Int) x10_1 = some r) ∧ Aside0 (kq ≤ k) ∧ Aside0 (Kd.R (Kd.int .u8) 5 w' w.heap.size (fun _ => True) (.slice Ao5 y112.length co5) x3_1) ∧ Aside0 (Below w.heap.size w w'))
  case atStart => exact ⟨(y112), (0), bS, H', ⟨Nat.le_refl _⟩, ⟨bR HO114⟩, ⟨bB⟩⟩
  case round =>
   clear H'; try clear c2
   try clear c2b0
   try clear c2b1
   obtain ⟨x3_1, x10_1, rfl, HA, HK1, HO_3, HB⟩ := hrel; have hl3_1 := (Kd.R_reads' HO_3.out).1; rw [hl3_1] at HO_3; (try simp only [hl3_1])
   cases gk with
   | zero => exact absurd HA.out (by simp [impl_small.l0])
   | succ k1 =>
    have H := HA.out; clear HA; simp only [impl_small.l0] at H; by_cases c6 : x10_1 < (y112.length : Int)
    ·rw [if_pos c6] at H; have c6b0 := decide_eq_true c6; (try simp only [hl3_1] at c6b0); clear c6; by_cases c7 : 0 ≤ x10_1
     ·rw [if_pos c7] at H; have c7b0 := decide_eq_true c7; (try simp only [hl3_1] at c7b0); clear c7; by_cases c8 : x10_1 < (x3_1.length : Int)
      ·rw [if_pos c8] at H; have c8b0 := decide_eq_true c8; (try simp only [hl3_1] at c8b0); clear c8; by_cases c9 : (rd x3_1 x10_1) ≥ 65
       ·rw [if_pos c9] at H; have c9b0 : decide (65 ≤ (rd x3_1 x10_1)) = true := decide_eq_true c9; (try simp only [hl3_1] at c9b0); clear c9; by_cases c10 : (rd x3_1 x10_1) ≤ 90
        ·rw [if_pos c10] at H; have c10b0 := decide_eq_true c10; (try simp only [hl3_1] at c10b0); clear c10; obtain ⟨y116, hy116⟩ : ∃ y_ : List Int, y_ = (x3_1.set (x10_1 : Int).toNat (((rd x3_1 x10_1) + 32) % 256)) := ⟨_, rfl⟩; replace H : (impl_small.l0 k1 y116 (y112.length : Int) (wrap64 (x10_1 + 1))) = some r := zz0 hy116; have Ny116 := aM hy116; clear hy116; have H' := aM H; clear H; have p115 : 0 ≤ (x10_1 : Int) := pI; have q115 : x10_1 < (x3_1.length : Int) := pI; obtain ⟨ad115, e115, hx115_0⟩ := Kd.at_int (Kd.R_reads' HO_3.out).2.2 x10_1 p115 q115; cases e115; replace p115 := eq_true p115; replace q115 := eq_true q115; have p11 : 0 ≤ (x10_1 : Int) := pI; have q11 : (x10_1 : Int) < ((x3_1.length : Int) : Int) := pI; obtain ⟨go11, co11, eo11, gb11, gl11, cl11, HG11⟩ := Kd.R_form HO_3.out (by omega); (first | cases eo11 | (injection eo11 with ea_ en_ ec_; (first | subst ea_ | (injection ea_ with ea_; subst ea_)); subst ec_; clear en_)); have GB11 := aM gb11; have GG11 := aM HG11; clear gb11 gl11 HG11; (first | simp only [add_plain] at hx115_0 | skip); obtain ⟨hx11_0, hf11_0⟩ := Kd.R_celln 0 HO_3.out (x10_1 : Int) p11 q11; replace p11 := eq_true p11; replace q11 := eq_true q11; have HP12 := Kd.R_putg HO_3.out (x10_1 : Int) (((rd x3_1 x10_1) + 32) % 256); go_wp2_with (first | ((with_reducible refine gate_store (t := 5) (p := 25) rfl ?_); refine store_event (t := 5) (p := 25) (v := ?vo_w13) (w1 := (wr.setCell ⟨go11, (x10_1 : Int).toNat, none⟩ (.int .u8 (((rd x3_1 x10_1) + 32) % 256)))) ?hg ?ho ?hn ?hr ?_; (case ho => rfl); (case hg => rfl); (case hn => rfl); (case hr => exact zz13); intro w13 hw; have hg : wr.grownBy w13 (some go11) := (by rw [hw]; exact HP12.2); have hp_ : Kd.R (Kd.int .u8) 5 w13 w.heap.size (fun _ => True) (.slice (some ⟨go11, 0, none⟩) x3_1.length co5) y116 := (by rw [hw, Ny116.out]; exact HP12.1); clear HP12; replace HO_3 := aM hp_; replace HB := aM ((zz67 GB11.out : Below w.heap.size w w13)); clear hg hw hp_)); (try simp only [← hl3_1]); go_roundg k1
         case measure => have := HK1.out; omega
         case rel => exact ⟨(y116), (wrap64 (x10_1 + 1)), bS, H', ⟨by have := HK1.out; omega⟩, ⟨zz60 HO_3.out⟩, ⟨bB⟩⟩
        rw [if_neg c10] at H; have c10b0 := decide_eq_false c10; (try simp only [hl3_1] at c10b0); clear c10; have H' := aM H; clear H; have p115 : 0 ≤ (x10_1 : Int) := pI; have q115 : x10_1 < (x3_1.length : Int) := pI; obtain ⟨ad115, e115, hx115_0⟩ := Kd.at_int (Kd.R_reads' HO_3.out).2.2 x10_1 p115 q115; cases e115; replace p115 := eq_true p115; replace q115 := eq_true q115; go_wp2; (try simp only [← hl3_1]); go_roundg k1
        case measure => have := HK1.out; omega
        case rel => exact ⟨(x3_1), (wrap64 (x10_1 + 1)), bS, H', ⟨by have := HK1.out; omega⟩, ⟨zz60 HO_3.out⟩, ⟨bB⟩⟩
       rw [if_neg c9] at H; have c9b0 : decide (65 ≤ (rd x3_1 x10_1)) = false := decide_eq_false c9; (try simp only [hl3_1] at c9b0); clear c9; have H' := aM H; clear H; have p115 : 0 ≤ (x10_1 : Int) := pI; have q115 : x10_1 < (x3_1.length : Int) := pI; obtain ⟨ad115, e115, hx115_0⟩ := Kd.at_int (Kd.R_reads' HO_3.out).2.2 x10_1 p115 q115; cases e115; replace p115 := eq_true p115; replace q115 := eq_true q115; go_wp2; (try simp only [← hl3_1]); go_roundg k1
       case measure => have := HK1.out; omega
       case rel => exact ⟨(x3_1), (wrap64 (x10_1 + 1)), bS, H', ⟨by have := HK1.out; omega⟩, ⟨zz60 HO_3.out⟩, ⟨bB⟩⟩
      rw [if_neg c8] at H; exact aB H
     rw [if_neg c7] at H; exact aB H
    rw [if_neg c6] at H; have c6b0 := decide_eq_false c6; (try simp only [hl3_1] at c6b0); clear c6; obtain rfl := Option.some.inj H; have hcv14 := own_string (P := Tryd.prog) Tryd.underlying27 Tryd.underlying5 Tryd.underlying9 (Kd.own_of_R HO_3.out); (try have hcv14d := fun nq_ : Nat => own_string (P := Tryd.prog) Tryd.underlying27 Tryd.underlying5 Tryd.underlying9 (Kd.own_of_R (Kd.R_drewN HO_3.out nq_))); go_wp2; go_ret; exact ⟨bE, bB⟩
 rw [if_neg c2] at H; exact aB H
def stringslite_HasPrefix.f (a0 : ByteArray) (a1 : ByteArray) : Option (Bool) := if (a0.size : Int) ≥ (a1.size : Int) then (if 0 ≤ (a1.size : Int) then (if (a1.size : Int) ≤ (a0.size : Int) then (some ((a0.extract 0 ((a1.size : Int) : Int).toNat).toList == a1.toList)) else (none)) else (none)) else (some false)
theorem stringslite_HasPrefix.calls (a0 : ByteArray) (a1 : ByteArray) (r : Bool) (w : World) (h : stringslite_HasPrefix.f a0 a1 = some r) :
  Calls Tryd.prog 80 #[.string a0, .string a1] w fun e w' => e = .returned (.bool r) ∧ Drawn0 w w' := by
 have H : (if (a0.size : Int) ≥ (a1.size : Int) then (if 0 ≤ (a1.size : Int) then (if (a1.size : Int) ≤ (a0.size : Int) then (some ((a0.extract 0 ((a1.size : Int) : Int).toNat).toList == a1.toList)) else (none)) else (none)) else (some false)) = some r := h; clear h; by_cases c3 : (a0.size : Int) ≥ (a1.size : Int)
 ·rw [if_pos c3] at H; have c3b0 : decide ((a1.size : Int) ≤ (a0.size : Int)) = true := decide_eq_true c3; have c3b1 : decide (a1.size ≤ a0.size) = true := decide_eq_true (Int.ofNat_le.mp c3); clear c3; by_cases c4 : 0 ≤ (a1.size : Int)
  ·rw [if_pos c4] at H; have c4b0 := eq_true c4; have c4b1 := decide_eq_true c4; clear c4; by_cases c5 : (a1.size : Int) ≤ (a0.size : Int)
   ·rw [if_pos c5] at H; have c5b0 := eq_true c5; have c5b1 := decide_eq_true c5; clear c5; obtain rfl := Option.some.inj H; go_enter Tryd.func80, Tryd.ntmps80; go_wp2; go_ret; exact ⟨bS, zz10⟩
   rw [if_neg c5] at H; exact aB H
  rw [if_neg c4] at H; exact aB H
 rw [if_neg c3] at H; have c3b0 : decide ((a1.size : Int) ≤ (a0.size : Int)) = false := decide_eq_false c3; have c3b1 : decide (a1.size ≤ a0.size) = false := decide_eq_false (fun h => c3 (Int.ofNat_le.mpr h)); clear c3; obtain rfl := Option.some.inj H; go_enter Tryd.func80, Tryd.ntmps80; go_wp2; go_ret; exact ⟨bS, zz10⟩
def strings_HasPrefix.f (a0 : ByteArray) (a1 : ByteArray) : Option (Bool) := (stringslite_HasPrefix.f a0 a1).bind fun t117 => (some t117)
theorem strings_HasPrefix.calls (a0 : ByteArray) (a1 : ByteArray) (r : Bool) (w : World) (h : strings_HasPrefix.f a0 a1 = some r) :
  Calls Tryd.prog 43 #[.string a0, .string a1] w fun e w' => e = .returned (.bool r) ∧ Drawn0 w w' := by
 have H : ((stringslite_HasPrefix.f a0 a1).bind fun t117 => (some t117)) = some r := h; clear h; replace H := oB H; obtain ⟨t117, A3, H⟩ := H; replace H : (some t117) = some r := H; obtain rfl := Option.some.inj H; go_enter Tryd.func43, Tryd.ntmps43; go_wp2_with (first | ((with_reducible refine gC 80 rfl ?_); refine gL_ (some 7) Tryd.func80 #[.string a0, .string a1] ?_; (with_reducible refine (stringslite_HasPrefix.calls a0 a1 t117 _ A3.out).mono ?_); rintro e w' ⟨rfl, ⟨nd, rfl⟩⟩; refine ⟨_, rfl, ?_⟩)); go_ret; exact ⟨bS, zz10⟩
def impl_parameter.l0 : Nat → ByteArray → List ByteArray → Int → Int → Option (ByteArray × Bool)
 | 0, _, _, _, _ => none
 | k + 1, x1, x9, x10, x11 => if x11 < x10 then (if 0 ≤ x11 then (if x11 < (x9.length : Int) then (if x11 > 0 then ((impl_small.f k (rdOf ByteArray.empty x9 x11)).bind fun t122 => ((strings_HasPrefix.f t122 x1).bind fun t123 => (if t123 = true then (if 0 ≤ (x1.size : Int) then (if (x1.size : Int) ≤ ((rdOf ByteArray.empty x9 x11).size : Int) then (some ((rdOf ByteArray.empty x9 x11).extract ((x1.size : Int) : Int).toNat (rdOf ByteArray.empty x9 x11).size, true)) else (none)) else (none)) else (impl_parameter.l0 k x1 x9 x10 (wrap64 (x11 + 1)))))) else (impl_parameter.l0 k x1 x9 x10 (wrap64 (x11 + 1)))) else (none)) else (none)) else (some ((⟨#[]⟩ : ByteArray), false))
def impl_parameter.f (k : Nat) (a0 : ByteArray) (a1 : ByteArray) : Option (ByteArray × Bool) := (impl_pieces.f k a0).bind fun t118 => (impl_parameter.l0 k a1 t118 (t118.length : Int) 0)
theorem impl_parameter.mono_l : ∀ k, (∀ y0 y1 y2 y3, LeO (impl_parameter.l0 k y0 y1 y2 y3) (impl_parameter.l0 (k + 1) y0 y1 y2 y3))
 | 0 => fun _ _ _ _ r h => by simp [impl_parameter.l0] at h
 | k + 1 => by
  have ih0 := impl_parameter.mono_l k
  ·intro y0 y1 y2 y3
   unfold impl_parameter.l0
   with_reducible repeat' first | exact ih0 _ _ _ _ | exact impl_pieces.mono _ _ | exact impl_small.mono _ _ | exact LeO.refl _ | exact LeO.none _ | refine LeO.ite ?_ ?_ | refine LeO.bind ?_ (fun _ => ?_)
theorem impl_parameter.mono : ∀ a0 a1 k, LeO (impl_parameter.f k a0 a1) (impl_parameter.f (k + 1) a0 a1) := by
 intro a0 a1 k
 have ih0 := impl_parameter.mono_l k
 unfold impl_parameter.f
 with_reducible repeat' first | exact ih0 _ _ _ _ | exact impl_pieces.mono _ _ | exact impl_small.mono _ _ | exact LeO.refl _ | exact LeO.none _ | refine LeO.ite ?_ ?_ | refine LeO.bind ?_ (fun _ => ?_)
theorem impl_parameter.calls (k : Nat) (a0 : ByteArray) (a1 : ByteArray) (r1 : ByteArray) (r2 : Bool) (w : World) (h : impl_parameter.f k a0 a1 = some (r1, r2)) :
  Calls Tryd.prog 44 #[.string a0, .string a1] w fun e w' => e = .returned (.tuple #[.string r1, .bool r2]) ∧ Below w.heap.size w w' := by
 have HB := aM (Below.refl w.heap.size w); have H : ((impl_pieces.f k a0).bind fun t118 => (impl_parameter.l0 k a1 t118 (t118.length : Int) 0)) = some (r1, r2) := h; clear h; replace H := oB H; obtain ⟨t118, A3, H⟩ := H; try dsimp only at H
 have H' := aM H; clear H; go_enter Tryd.func44, Tryd.ntmps44; go_wp2_with (first | ((with_reducible refine gC 41 rfl ?_); refine gL_ (some 9) Tryd.func41 #[.string a0] ?_; (with_reducible refine (impl_pieces.calls k a0 t118 _ A3.out).mono ?_); rintro e w4 ⟨v119, rfl, ho0, hb⟩; refine ⟨_, rfl, ?_⟩; have HO120 := aM (Kd.R_lower ho0 (below_size bB)); replace HB := aM (below_step bB hb); (try clear ho0); obtain ⟨Ao5, co5, eo5⟩ := Kd.R_slice HO120.out; subst eo5)); go_loopg [11] k (fun kq v11 w' => ∃ (x11_1 : Int), v11 = .int .i64 x11_1 ∧ Aside0 (impl_parameter.l0 kq a1 t118 (t118.length : Int) x11_1 = some (r1, r2)) ∧ Aside0 (kq ≤ k) ∧ Aside0 (Kd.R Kd.string 9 w' w.heap.size (fun _ => True) (.slice Ao5 t118.length co5) t118) ∧ Aside0 (Below w.heap.size w w'))
 case atStart => exact ⟨(0), bS, H', ⟨Nat.le_refl _⟩, ⟨bR HO120⟩, ⟨bB⟩⟩
 case round =>
  clear H'; obtain ⟨x11_1, rfl, HA, HK1, HO_9, HB⟩ := hrel
  cases gk with
  | zero => exact absurd HA.out (by simp [impl_parameter.l0])
  | succ k1 =>
   have H := HA.out; clear HA; simp only [impl_parameter.l0] at H; by_cases c6 : x11_1 < (t118.length : Int)
   ·rw [if_pos c6] at H; have c6b0 := decide_eq_true c6; clear c6; by_cases c7 : 0 ≤ x11_1
    ·rw [if_pos c7] at H; have c7b0 := decide_eq_true c7; clear c7; by_cases c8 : x11_1 < (t118.length : Int)
     ·rw [if_pos c8] at H; have c8b0 := decide_eq_true c8; clear c8; by_cases c9 : x11_1 > 0
      ·rw [if_pos c9] at H; have c9b0 : decide (0 < x11_1) = true := decide_eq_true c9; clear c9; replace H := oB H; obtain ⟨t122, A10, H⟩ := H; try dsimp only at H
       replace H := oB H; obtain ⟨t123, A11, H⟩ := H; try dsimp only at H
       by_cases c12 : t123 = true
       ·subst c12; replace H : (if 0 ≤ (a1.size : Int) then (if (a1.size : Int) ≤ ((rdOf ByteArray.empty t118 x11_1).size : Int) then (some ((rdOf ByteArray.empty t118 x11_1).extract ((a1.size : Int) : Int).toNat (rdOf ByteArray.empty t118 x11_1).size, true)) else (none)) else (none)) = some (r1, r2) := zz36; by_cases c13 : 0 ≤ (a1.size : Int)
        ·rw [if_pos c13] at H; have c13b0 := eq_true c13; have c13b1 := decide_eq_true c13; clear c13; by_cases c14 : (a1.size : Int) ≤ ((rdOf ByteArray.empty t118 x11_1).size : Int)
         ·rw [if_pos c14] at H; have c14b0 := eq_true c14; have c14b1 := decide_eq_true c14; clear c14; simp only [Option.some.injEq, Prod.mk.injEq] at H; obtain ⟨rfl, rfl⟩ := H; have p121 : 0 ≤ (x11_1 : Int) := pI; have q121 : x11_1 < (t118.length : Int) := pI; obtain ⟨ad121, e121, hx121_0⟩ := Kd.at_string (Kd.R_reads' HO_9.out).2.2 x11_1 p121 q121; cases e121; replace p121 := eq_true p121; replace q121 := eq_true q121; go_wp2_with (first | (go_at_call 42; (with_reducible refine (impl_small.calls k1 (rdOf ByteArray.empty t118 x11_1) t122 _ A10.out).mono ?_); rintro e w15 ⟨rfl, hb⟩; replace HO_9 := aM (Kd.R_below (bR HO_9) hb); replace HB := aM (below_step bB hb); (try clear hi)) | (go_at_call 43; (with_reducible refine (strings_HasPrefix.calls t122 a1 true _ A11.out).mono ?_); rintro e w' ⟨rfl, ⟨nd, rfl⟩⟩)); go_ret2; exact ⟨bE, bB⟩
         rw [if_neg c14] at H; exact aB H
        rw [if_neg c13] at H; exact aB H
       replace c12 := Bool.eq_false_iff.mpr c12; subst c12; replace H : (impl_parameter.l0 k1 a1 t118 (t118.length : Int) (wrap64 (x11_1 + 1))) = some (r1, r2) := zz21; have H' := aM H; clear H; have p121 : 0 ≤ (x11_1 : Int) := pI; have q121 : x11_1 < (t118.length : Int) := pI; obtain ⟨ad121, e121, hx121_0⟩ := Kd.at_string (Kd.R_reads' HO_9.out).2.2 x11_1 p121 q121; cases e121; replace p121 := eq_true p121; replace q121 := eq_true q121; go_wp2_with (first | (go_at_call 42; (with_reducible refine (impl_small.calls k1 (rdOf ByteArray.empty t118 x11_1) t122 _ A10.out).mono ?_); rintro e w16 ⟨rfl, hb⟩; replace HO_9 := aM (Kd.R_below (bR HO_9) hb); replace HB := aM (below_step bB hb); (try clear hi)) | (go_at_call 43; (with_reducible refine (strings_HasPrefix.calls t122 a1 false _ A11.out).mono ?_); rintro e w' ⟨rfl, ⟨nd, rfl⟩⟩)); go_roundg k1
       case measure => have := HK1.out; omega
       case rel => exact ⟨(wrap64 (x11_1 + 1)), bS, H', ⟨by have := HK1.out; omega⟩, ⟨bR HO_9⟩, ⟨bB⟩⟩
      rw [if_neg c9] at H; have c9b0 : decide (0 < x11_1) = false := decide_eq_false c9; clear c9; have H' := aM H; clear H; have p121 : 0 ≤ (x11_1 : Int) := pI; have q121 : x11_1 < (t118.length : Int) := pI; obtain ⟨ad121, e121, hx121_0⟩ := Kd.at_string (Kd.R_reads' HO_9.out).2.2 x11_1 p121 q121; cases e121; replace p121 := eq_true p121; replace q121 := eq_true q121; go_wp2; go_roundg k1
      case measure => have := HK1.out; omega
      case rel => exact ⟨(wrap64 (x11_1 + 1)), bS, H', ⟨by have := HK1.out; omega⟩, ⟨bR HO_9⟩, ⟨bB⟩⟩
     rw [if_neg c8] at H; exact aB H
    rw [if_neg c7] at H; exact aB H
   rw [if_neg c6] at H; have c6b0 := decide_eq_false c6; clear c6; simp only [Option.some.injEq, Prod.mk.injEq] at H; obtain ⟨rfl, rfl⟩ := H; go_wp2; go_ret2; exact ⟨bE, bB⟩
def slices_Index_string_string.l0 : Nat → List ByteArray → ByteArray → Int → Int → Option (Int)
 | 0, _, _, _, _ => none
 | k + 1, x0, x1, x7, x8 => if x8 < x7 then (if 0 ≤ x8 then (if x8 < (x0.length : Int) then (if x1.toList = (rdOf ByteArray.empty x0 x8).toList then (some x8) else (slices_Index_string_string.l0 k x0 x1 x7 (wrap64 (x8 + 1)))) else (none)) else (none)) else (some (-1))
def slices_Index_string_string.f (k : Nat) (l0 : List ByteArray) (a1 : ByteArray) : Option (Int) := slices_Index_string_string.l0 k l0 a1 (l0.length : Int) 0
theorem slices_Index_string_string.mono_l : ∀ k, (∀ y0 y1 y2 y3, LeO (slices_Index_string_string.l0 k y0 y1 y2 y3) (slices_Index_string_string.l0 (k + 1) y0 y1 y2 y3))
 | 0 => fun _ _ _ _ r h => by simp [slices_Index_string_string.l0] at h
 | k + 1 => by
  have ih0 := slices_Index_string_string.mono_l k
  ·intro y0 y1 y2 y3
   unfold slices_Index_string_string.l0
   with_reducible repeat' first | exact ih0 _ _ _ _ | exact LeO.refl _ | exact LeO.none _ | refine LeO.ite ?_ ?_ | refine LeO.bind ?_ (fun _ => ?_)
theorem slices_Index_string_string.mono : ∀ a0 a1 k, LeO (slices_Index_string_string.f k a0 a1) (slices_Index_string_string.f (k + 1) a0 a1) := by
 intro a0 a1 k
 have ih0 := slices_Index_string_string.mono_l k
 unfold slices_Index_string_string.f
 with_reducible repeat' first | exact ih0 _ _ _ _ | exact LeO.refl _ | exact LeO.none _ | refine LeO.ite ?_ ?_ | refine LeO.bind ?_ (fun _ => ?_)
theorem slices_Index_string_string.calls (k : Nat) (A0 : Option Addr) (c0 : Nat) (l0 : List ByteArray) (a1 : ByteArray) (r : Int) (w : World) (hr0 : Kd.C Kd.string w A0 l0.length l0) (hc0 : l0.length ≤ c0) (h : slices_Index_string_string.f k l0 a1 = some r) :
  Calls Tryd.prog 81 #[.slice A0 l0.length c0, .string a1] w fun e w' => e = .returned (.int .i64 r) ∧ Drawn0 w w' := by
 have HR0 := aM hr0; have HC0 := aM hc0; clear hr0 hc0; have H : (slices_Index_string_string.l0 k l0 a1 (l0.length : Int) 0) = some r := h; clear h; have H' := aM H; clear H; go_enter Tryd.func81, Tryd.ntmps81; go_wp2; go_loopg [8] k (fun kq v8 w' => ∃ (x8_1 : Int), v8 = .int .i64 x8_1 ∧ Aside0 (slices_Index_string_string.l0 kq l0 a1 (l0.length : Int) x8_1 = some r) ∧ Aside0 (kq ≤ k) ∧ Drawn0 w w')
 case atStart => exact ⟨(0), bS, H', ⟨Nat.le_refl _⟩, zz10⟩
 case round =>
  clear H'; obtain ⟨x8_1, rfl, HA, HK1, ⟨m1, rfl⟩⟩ := hrel
  cases gk with
  | zero => exact absurd HA.out (by simp [slices_Index_string_string.l0])
  | succ k1 =>
   have H := HA.out; clear HA; simp only [slices_Index_string_string.l0] at H; by_cases c3 : x8_1 < (l0.length : Int)
   ·rw [if_pos c3] at H; have c3b0 := decide_eq_true c3; clear c3; by_cases c4 : 0 ≤ x8_1
    ·rw [if_pos c4] at H; have c4b0 := decide_eq_true c4; clear c4; by_cases c5 : x8_1 < (l0.length : Int)
     ·rw [if_pos c5] at H; have c5b0 := decide_eq_true c5; clear c5; by_cases c6 : a1.toList = (rdOf ByteArray.empty l0 x8_1).toList
      ·rw [if_pos c6] at H; have c6b0 : (a1.toList == (rdOf ByteArray.empty l0 x8_1).toList) = true := beq_iff_eq.mpr c6; have c6b1 : (a1.toList != (rdOf ByteArray.empty l0 x8_1).toList) = false := bne_eq_false_iff_eq.mpr c6; clear c6; obtain rfl := Option.some.inj H; have p124 : 0 ≤ (x8_1 : Int) := pI; have q124 : x8_1 < (l0.length : Int) := pI; obtain ⟨ad124, e124, hx124_0⟩ := Kd.at_string HR0.out x8_1 p124 q124; cases e124; replace p124 := eq_true p124; replace q124 := eq_true q124; go_wp2; go_ret; exact ⟨bS, zz10⟩
      rw [if_neg c6] at H; have c6b0 : (a1.toList == (rdOf ByteArray.empty l0 x8_1).toList) = false := beq_eq_false_iff_ne.mpr c6; have c6b1 : (a1.toList != (rdOf ByteArray.empty l0 x8_1).toList) = true := bne_iff_ne.mpr c6; have H' := aM H; clear H; have p124 : 0 ≤ (x8_1 : Int) := pI; have q124 : x8_1 < (l0.length : Int) := pI; obtain ⟨ad124, e124, hx124_0⟩ := Kd.at_string HR0.out x8_1 p124 q124; cases e124; replace p124 := eq_true p124; replace q124 := eq_true q124; go_wp2; go_roundg k1
      case measure => have := HK1.out; omega
      case rel => exact ⟨(wrap64 (x8_1 + 1)), bS, H', ⟨by have := HK1.out; omega⟩, zz10⟩
     rw [if_neg c5] at H; exact aB H
    rw [if_neg c4] at H; exact aB H
   rw [if_neg c3] at H; have c3b0 := decide_eq_false c3; clear c3; obtain rfl := Option.some.inj H; go_wp2; go_ret; exact ⟨bS, zz10⟩
def impl_charsets.f  : Option (List ByteArray) := some (([(⟨#[117, 115, 45, 97, 115, 99, 105, 105]⟩ : ByteArray), (⟨#[105, 115, 111, 45, 56, 56, 53, 57, 45, 49]⟩ : ByteArray), (⟨#[105, 115, 111, 45, 56, 56, 53, 57, 45, 53]⟩ : ByteArray), (⟨#[117, 116, 102, 45, 56]⟩ : ByteArray), (⟨#[117, 116, 102, 45, 49, 54]⟩ : ByteArray)] : List ByteArray))
theorem impl_charsets.calls  (r : List ByteArray) (w : World) (h : impl_charsets.f  = some r) :
  Calls Tryd.prog 82 #[] w fun e w' => ∃ v0_ : Value, e = .returned (v0_) ∧ Kd.R Kd.string 9 w' w.heap.size (fun _ => True) v0_ r ∧ Below w.heap.size w w' := by
 have HB := aM (Below.refl w.heap.size w); have H : (some (([(⟨#[117, 115, 45, 97, 115, 99, 105, 105]⟩ : ByteArray), (⟨#[105, 115, 111, 45, 56, 56, 53, 57, 45, 49]⟩ : ByteArray), (⟨#[105, 115, 111, 45, 56, 56, 53, 57, 45, 53]⟩ : ByteArray), (⟨#[117, 116, 102, 45, 56]⟩ : ByteArray), (⟨#[117, 116, 102, 45, 49, 54]⟩ : ByteArray)] : List ByteArray))) = some r := h; clear h; obtain ⟨y125, hy125⟩ : ∃ y_ : List ByteArray, y_ = (([(⟨#[117, 115, 45, 97, 115, 99, 105, 105]⟩ : ByteArray), (⟨#[105, 115, 111, 45, 56, 56, 53, 57, 45, 49]⟩ : ByteArray), (⟨#[105, 115, 111, 45, 56, 56, 53, 57, 45, 53]⟩ : ByteArray), (⟨#[117, 116, 102, 45, 56]⟩ : ByteArray), (⟨#[117, 116, 102, 45, 49, 54]⟩ : ByteArray)] : List ByteArray)) := ⟨_, rfl⟩; replace H : (some y125) = some r := zz0 hy125; have Ny125 := aM hy125; clear hy125; obtain rfl := Option.some.inj H; go_enter Tryd.func82, Tryd.ntmps82; go_wp2_with (first | ((with_reducible refine gate_dst (N := 1) rfl ?_); refine Kd.R_lit Kd.string _ 9 ?hg (N := 1) ?hd (xs := ([(⟨#[117, 115, 45, 97, 115, 99, 105, 105]⟩ : ByteArray), (⟨#[105, 115, 111, 45, 56, 56, 53, 57, 45, 49]⟩ : ByteArray), (⟨#[105, 115, 111, 45, 56, 56, 53, 57, 45, 53]⟩ : ByteArray), (⟨#[117, 116, 102, 45, 56]⟩ : ByteArray), (⟨#[117, 116, 102, 45, 49, 54]⟩ : ByteArray)] : List ByteArray)) (inner := [.string (⟨#[117, 115, 45, 97, 115, 99, 105, 105]⟩ : ByteArray), .string (⟨#[105, 115, 111, 45, 56, 56, 53, 57, 45, 49]⟩ : ByteArray), .string (⟨#[105, 115, 111, 45, 56, 56, 53, 57, 45, 53]⟩ : ByteArray), .string (⟨#[117, 116, 102, 45, 56]⟩ : ByteArray), .string (⟨#[117, 116, 102, 45, 49, 54]⟩ : ByteArray)]) (ok := fun _ => True) (okp := fun _ => True) ?hr ?hp (fun _ hk => hk) trivial (Below.refl _ _) (Nat.le_refl _) (by simp) ?_; (case hd => rfl); (case hg => rfl); (case hr => exact zz13); (case hp => exact (Reps.one (show Kd.M Kd.string _ _ _ (⟨#[117, 115, 45, 97, 115, 99, 105, 105]⟩ : ByteArray) [.string (⟨#[117, 115, 45, 97, 115, 99, 105, 105]⟩ : ByteArray)] from rfl) (Reps.one (show Kd.M Kd.string _ _ _ (⟨#[105, 115, 111, 45, 56, 56, 53, 57, 45, 49]⟩ : ByteArray) [.string (⟨#[105, 115, 111, 45, 56, 56, 53, 57, 45, 49]⟩ : ByteArray)] from rfl) (Reps.one (show Kd.M Kd.string _ _ _ (⟨#[105, 115, 111, 45, 56, 56, 53, 57, 45, 53]⟩ : ByteArray) [.string (⟨#[105, 115, 111, 45, 56, 56, 53, 57, 45, 53]⟩ : ByteArray)] from rfl) (Reps.one (show Kd.M Kd.string _ _ _ (⟨#[117, 116, 102, 45, 56]⟩ : ByteArray) [.string (⟨#[117, 116, 102, 45, 56]⟩ : ByteArray)] from rfl) (Reps.one (show Kd.M Kd.string _ _ _ (⟨#[117, 116, 102, 45, 49, 54]⟩ : ByteArray) [.string (⟨#[117, 116, 102, 45, 49, 54]⟩ : ByteArray)] from rfl) (Reps.none _ _))))))); intro v126 w1 ho2 hb hg_ hnew_; clear hg_ hnew_; (first | rw [← Ny125.out] at ho2 | (simp only [Int.reduceToNat] at ho2; rw [← Ny125.out] at ho2)); have HO127 := aM (Kd.R_lower ho2 (below_size bB)); replace HB := aM (below_step bB hb); clear hb ho2)); go_ret; exact ⟨_, bE, bR HO127, bB⟩
def impl_CharsetOf.f (k : Nat) (a0 : ByteArray) : Option (Int × Int) := (impl_charsets.f).bind fun t129 => ((impl_small.f k a0).bind fun t132 => ((slices_Index_string_string.f k t129 t132).bind fun t133 => (if t133 < 0 then (some (4, 0)) else (some (0, wrap64 (t133 + 1))))))
theorem impl_CharsetOf.mono : ∀ a0 k, LeO (impl_CharsetOf.f k a0) (impl_CharsetOf.f (k + 1) a0) := by
 intro a0 k
 unfold impl_CharsetOf.f
 with_reducible repeat' first | exact impl_small.mono _ _ | exact slices_Index_string_string.mono _ _ _ | exact LeO.refl _ | exact LeO.none _ | refine LeO.ite ?_ ?_ | refine LeO.bind ?_ (fun _ => ?_)
theorem impl_CharsetOf.calls (k : Nat) (a0 : ByteArray) (r1 : Int) (r2 : Int) (w : World) (h : impl_CharsetOf.f k a0 = some (r1, r2)) :
  Calls Tryd.prog 45 #[.string a0] w fun e w' => e = .returned (.agg #[.int .i64 r1, .int .i64 r2]) ∧ Below w.heap.size w w' := by
 have hu39 := Tryd.underlying39; have HB := aM (Below.refl w.heap.size w); have H : ((impl_charsets.f).bind fun t129 => ((impl_small.f k a0).bind fun t132 => ((slices_Index_string_string.f k t129 t132).bind fun t133 => (if t133 < 0 then (some (4, 0)) else (some (0, wrap64 (t133 + 1))))))) = some (r1, r2) := h; clear h; replace H := oB H; obtain ⟨t129, A2, H⟩ := H; try dsimp only at H
 replace H := oB H; obtain ⟨t132, A3, H⟩ := H; try dsimp only at H
 replace H := oB H; obtain ⟨t133, A4, H⟩ := H; try dsimp only at H
 by_cases c5 : t133 < 0
 ·rw [if_pos c5] at H; have c5b0 := decide_eq_true c5; clear c5; simp only [Option.some.injEq, Prod.mk.injEq] at H; obtain ⟨rfl, rfl⟩ := H; go_enter Tryd.func45, Tryd.ntmps45; go_wp2_with (first | ((with_reducible refine gate_dst (N := 2) rfl ?_); refine box_event ?hg (N := 2) ?hd (cs := #[.int .i64 0, .int .i64 0]) (t := 39) ?hr ?_; (case hd => rfl); (case hg => rfl); (case hr => exact zz13); intro gb128 hg w6 hbox hb; have BK128 := aM hbox; have GW128 := aM ((zz29 : w.heap.size ≤ gb128)); have GE128 := aM ((zz29 : w.heap.size ≤ gb128)); replace HB := aM (below_step bB hb); clear hb hbox hg) | ((with_reducible refine gC 82 rfl ?_); refine gL_ (some 4) Tryd.func82 #[] ?_; (with_reducible refine (impl_charsets.calls  t129 _ A2.out).mono ?_); rintro e w7 ⟨v130, rfl, ho0, hb⟩; refine ⟨_, rfl, ?_⟩; have HO131 := aM (Kd.R_lower ho0 (below_size (bG GE128))); replace BK128 := aM (bLb BK128 hb); replace HB := aM (below_step (bG GE128) hb); (try clear ho0)) | ((with_reducible refine gC 42 rfl ?_); refine gL_ (some 6) Tryd.func42 #[.string a0] ?_; (with_reducible refine (impl_small.calls k a0 t132 _ A3.out).mono ?_); rintro e w8 ⟨rfl, hb⟩; refine ⟨_, rfl, ?_⟩; replace HO131 := aM (Kd.R_below (bR HO131) hb); replace BK128 := aM (bLb BK128 hb); replace HB := aM (below_step (bG GE128) hb); obtain ⟨Ao9, co9, eo9⟩ := Kd.R_slice HO131.out; subst eo9) | ((with_reducible refine gC 81 rfl ?_); refine gL_ (some 7) Tryd.func81 #[.slice Ao9 t129.length co9, .string t132] ?_; (with_reducible refine (slices_Index_string_string.calls k _ _ t129 t132 t133 _ ?side1 ?side2 A4.out).mono ?_); (case side1 => exact zz5 HO131.out); (case side2 => exact (Kd.R_reads' HO131.out).2.1); rintro e w' ⟨rfl, ⟨nd, rfl⟩⟩; refine ⟨_, rfl, ?_⟩; (try (rw [drewN_self w8]; generalize hq_ : World.drewN w8 _ = w8; have n0_ : Aside0 (Kd.R Kd.string 9 w8 w.heap.size (fun _ => True) (.slice Ao9 t129.length co9) t129) := ⟨by rw [← hq_]; exact (bR HO131)⟩; have n1_ : Aside0 (w8.heap[gb128]? = some (.cells #[.int .i64 0, .int .i64 0] 39 (0, 0))) := ⟨by rw [← hq_]; exact (bL BK128)⟩; have n2_ : Aside0 (Below w.heap.size w w8) := ⟨by rw [← hq_]; exact (bG GE128)⟩; clear HO131 BK128 HB hq_; have HO131 := n0_; have BK128 := n1_; have HB := n2_; clear n0_ n1_ n2_)); obtain ⟨hcz10_0, hcz10_1, hfz10_0, hfz10_1⟩ := cC2 BK128.out)); refine bodyPost_ret (results_cell_row rfl _ _ gb128 39 #[.int .i64 4, .int .i64 0] (0, 0) _ rfl (by (with_reducible repeat (first | refine blk_drewN ?_ _ | refine blk_drew ?_ | refine blk_alloc ?_ _)); refine blk_put (cs := #[.int .i64 4, .int .i64 0]) ?_ 1 _ rfl; (with_reducible repeat (first | refine blk_drewN ?_ _ | refine blk_drew ?_ | refine blk_alloc ?_ _)); refine blk_put (cs := #[.int .i64 0, .int .i64 0]) ?_ 0 _ rfl; (with_reducible repeat (first | refine blk_drewN ?_ _ | refine blk_drew ?_ | refine blk_alloc ?_ _)); exact BK128.out) Tryd.underlying39 rfl (by kernel_rfl)) rfl ?_; exact ⟨bE, bG GE128⟩
 rw [if_neg c5] at H; have c5b0 := decide_eq_false c5; clear c5; simp only [Option.some.injEq, Prod.mk.injEq] at H; obtain ⟨rfl, rfl⟩ := H; go_enter Tryd.func45, Tryd.ntmps45; go_wp2_with (first | ((with_reducible refine gate_dst (N := 2) rfl ?_); refine box_event ?hg (N := 2) ?hd (cs := #[.int .i64 0, .int .i64 0]) (t := 39) ?hr ?_; (case hd => rfl); (case hg => rfl); (case hr => exact zz13); intro gb128 hg w11 hbox hb; have BK128 := aM hbox; have GW128 := aM ((zz29 : w.heap.size ≤ gb128)); have GE128 := aM ((zz29 : w.heap.size ≤ gb128)); replace HB := aM (below_step bB hb); clear hb hbox hg) | ((with_reducible refine gC 82 rfl ?_); refine gL_ (some 4) Tryd.func82 #[] ?_; (with_reducible refine (impl_charsets.calls  t129 _ A2.out).mono ?_); rintro e w12 ⟨v130, rfl, ho0, hb⟩; refine ⟨_, rfl, ?_⟩; have HO131 := aM (Kd.R_lower ho0 (below_size (bG GE128))); replace BK128 := aM (bLb BK128 hb); replace HB := aM (below_step (bG GE128) hb); (try clear ho0)) | ((with_reducible refine gC 42 rfl ?_); refine gL_ (some 6) Tryd.func42 #[.string a0] ?_; (with_reducible refine (impl_small.calls k a0 t132 _ A3.out).mono ?_); rintro e w13 ⟨rfl, hb⟩; refine ⟨_, rfl, ?_⟩; replace HO131 := aM (Kd.R_below (bR HO131) hb); replace BK128 := aM (bLb BK128 hb); replace HB := aM (below_step (bG GE128) hb); obtain ⟨Ao14, co14, eo14⟩ := Kd.R_slice HO131.out; subst eo14) | ((with_reducible refine gC 81 rfl ?_); refine gL_ (some 7) Tryd.func81 #[.slice Ao14 t129.length co14, .string t132] ?_; (with_reducible refine (slices_Index_string_string.calls k _ _ t129 t132 t133 _ ?side1 ?side2 A4.out).mono ?_); (case side1 => exact zz5 HO131.out); (case side2 => exact (Kd.R_reads' HO131.out).2.1); rintro e w' ⟨rfl, ⟨nd, rfl⟩⟩; refine ⟨_, rfl, ?_⟩; (try (rw [drewN_self w13]; generalize hq_ : World.drewN w13 _ = w13; have n0_ : Aside0 (Kd.R Kd.string 9 w13 w.heap.size (fun _ => True) (.slice Ao14 t129.length co14) t129) := ⟨by rw [← hq_]; exact (bR HO131)⟩; have n1_ : Aside0 (w13.heap[gb128]? = some (.cells #[.int .i64 0, .int .i64 0] 39 (0, 0))) := ⟨by rw [← hq_]; exact (bL BK128)⟩; have n2_ : Aside0 (Below w.heap.size w w13) := ⟨by rw [← hq_]; exact (bG GE128)⟩; clear HO131 BK128 HB hq_; have HO131 := n0_; have BK128 := n1_; have HB := n2_; clear n0_ n1_ n2_)); obtain ⟨hcz15_0, hcz15_1, hfz15_0, hfz15_1⟩ := cC2 BK128.out)); refine bodyPost_ret (results_cell_row rfl _ _ gb128 39 #[.int .i64 0, .int .i64 (wrap64 (t133 + 1))] (0, 0) _ rfl (by (with_reducible repeat (first | refine blk_drewN ?_ _ | refine blk_drew ?_ | refine blk_alloc ?_ _)); refine blk_put (cs := #[.int .i64 0, .int .i64 0]) ?_ 1 _ rfl; (with_reducible repeat (first | refine blk_drewN ?_ _ | refine blk_drew ?_ | refine blk_alloc ?_ _)); refine blk_put (cs := #[.int .i64 0, .int .i64 0]) ?_ 0 _ rfl; (with_reducible repeat (first | refine blk_drewN ?_ _ | refine blk_drew ?_ | refine blk_alloc ?_ _)); exact BK128.out) Tryd.underlying39 rfl (by kernel_rfl)) rfl ?_; exact ⟨bE, bG GE128⟩
def impl_TypeOf.j0 : Nat → ByteArray → ByteArray → Option (Int × Int × Int × Int × Int × Int × Int)
 | 0, _, _ => none
 | k + 1, x0, x3 => (strings_HasPrefix.f x3 (⟨#[109, 117, 108, 116, 105, 112, 97, 114, 116, 47]⟩ : ByteArray)).bind fun t140 => (if t140 = true then (some (2, 0, 0, 0, 0, 0, 0)) else ((strings_HasPrefix.f x3 (⟨#[116, 101, 120, 116, 47]⟩ : ByteArray)).bind fun t141 => (if t141 = true then ((impl_parameter.f k x0 (⟨#[99, 104, 97, 114, 115, 101, 116, 61]⟩ : ByteArray)).bind fun bt142 => (if bt142.2 = true then ((impl_CharsetOf.f k bt142.1).bind fun bt144 => (some (1, bt144.2, 0, 0, 0, 0, 0))) else (some (1, 1, 0, 0, 0, 0, 0)))) else (some (3, 0, 0, 0, 0, 0, 0)))))
def impl_TypeOf.f (k : Nat) (a0 : ByteArray) : Option (Int × Int × Int × Int × Int × Int × Int) := (impl_pieces.f k a0).bind fun t135 => (if (t135.length : Int) > 0 then (if 0 < (t135.length : Int) then ((impl_small.f k (rdOf ByteArray.empty t135 0)).bind fun t139 => (impl_TypeOf.j0 k a0 t139)) else (none)) else (impl_TypeOf.j0 k a0 (⟨#[]⟩ : ByteArray)))
theorem impl_TypeOf.mono_l : ∀ k, (∀ y0 y1, LeO (impl_TypeOf.j0 k y0 y1) (impl_TypeOf.j0 (k + 1) y0 y1))
 | 0 => fun _ _ r h => by simp [impl_TypeOf.j0] at h
 | k + 1 => by
  have ih0 := impl_TypeOf.mono_l k
  ·intro y0 y1
   unfold impl_TypeOf.j0
   with_reducible repeat' first | exact ih0 _ _ | exact impl_CharsetOf.mono _ _ | exact impl_parameter.mono _ _ _ | exact impl_pieces.mono _ _ | exact impl_small.mono _ _ | exact LeO.refl _ | exact LeO.none _ | refine LeO.ite ?_ ?_ | refine LeO.bind ?_ (fun _ => ?_)
theorem impl_TypeOf.mono : ∀ a0 k, LeO (impl_TypeOf.f k a0) (impl_TypeOf.f (k + 1) a0) := by
 intro a0 k
 have ih0 := impl_TypeOf.mono_l k
 unfold impl_TypeOf.f
 with_reducible repeat' first | exact ih0 _ _ | exact impl_CharsetOf.mono _ _ | exact impl_parameter.mono _ _ _ | exact impl_pieces.mono _ _ | exact impl_small.mono _ _ | exact LeO.refl _ | exact LeO.none _ | refine LeO.ite ?_ ?_ | refine LeO.bind ?_ (fun _ => ?_)
theorem impl_TypeOf.calls (k : Nat) (a0 : ByteArray) (r1 : Int) (r2 : Int) (r3 : Int) (r4 : Int) (r5 : Int) (r6 : Int) (r7 : Int) (w : World) (h : impl_TypeOf.f k a0 = some (r1, r2, r3, r4, r5, r6, r7)) :
  Calls Tryd.prog 10 #[.string a0] w fun e w' => e = .returned (.agg #[.int .i64 r1, .int .i64 r2, .int .i64 r3, .int .i64 r4, .int .i64 r5, .int .i64 r6, .int .i64 r7]) ∧ Below w.heap.size w w' := by
 have hu23 := Tryd.underlying23; have HB := aM (Below.refl w.heap.size w); have H : ((impl_pieces.f k a0).bind fun t135 => (if (t135.length : Int) > 0 then (if 0 < (t135.length : Int) then ((impl_small.f k (rdOf ByteArray.empty t135 0)).bind fun t139 => (impl_TypeOf.j0 k a0 t139)) else (none)) else (impl_TypeOf.j0 k a0 (⟨#[]⟩ : ByteArray)))) = some (r1, r2, r3, r4, r5, r6, r7) := h; clear h; replace H := oB H; obtain ⟨t135, A2, H⟩ := H; try dsimp only at H
 have HC3 := aM H; clear H; go_enter Tryd.func10, Tryd.ntmps10; go_upto_if 11 with (first | ((with_reducible refine gate_dst (N := 2) rfl ?_); refine box_event ?hg (N := 2) ?hd (cs := #[.int .i64 0, .int .i64 0, .int .i64 0, .int .i64 0, .int .i64 0, .int .i64 0, .int .i64 0]) (t := 23) ?hr ?_; (case hd => rfl); (case hg => rfl); (case hr => exact zz13); intro gb134 hg w4 hbox hb; have BK134 := aM hbox; have GW134 := aM ((zz29 : w.heap.size ≤ gb134)); have GE134 := aM ((zz29 : w.heap.size ≤ gb134)); replace HB := aM (below_step bB hb); clear hb hbox hg) | ((with_reducible refine gC 41 rfl ?_); refine gL_ (some 8) Tryd.func41 #[.string a0] ?_; (with_reducible refine (impl_pieces.calls k a0 t135 _ A2.out).mono ?_); rintro e w5 ⟨v136, rfl, ho0, hb⟩; refine ⟨_, rfl, ?_⟩; have HO137 := aM (Kd.R_lower ho0 (below_size (bG GE134))); replace BK134 := aM (bLb BK134 hb); replace HB := aM (below_step (bG GE134) hb); (try clear ho0); obtain ⟨Ao6, co6, eo6⟩ := Kd.R_slice HO137.out; subst eo6)); (try simp only [Act.put, List.setIfInBounds_toArray, List.set_cons_zero, List.set_cons_succ]); go_cut [3] (fun v3 wc => ∃ (kq : Nat) (x3_2 : ByteArray), v3 = .string x3_2 ∧ Aside0 (impl_TypeOf.j0 kq a0 x3_2 = some (r1, r2, r3, r4, r5, r6, r7)) ∧ Aside0 (kq ≤ k) ∧ Aside0 (wc.heap[gb134]? = some (.cells #[.int .i64 0, .int .i64 0, .int .i64 0, .int .i64 0, .int .i64 0, .int .i64 0, .int .i64 0] 23 (0, 0))) ∧ Aside0 (Below w.heap.size w wc))
 case first =>
  have H := HC3.out; clear HC3; by_cases c7 : (t135.length : Int) > 0
  ·rw [if_pos c7] at H; have c7b0 : decide (0 < (t135.length : Int)) = true := decide_eq_true c7; have c7b1 : decide (0 < t135.length) = true := decide_eq_true (by omega); clear c7; (first | rw [c7b0] | rw [c7b1] | (simp only [i64_w, i32_w]; rw [c7b0]) | skip); by_cases c8 : 0 < (t135.length : Int)
   ·rw [if_pos c8] at H; have c8b0 := decide_eq_true c8; have c8b1 : decide (0 < t135.length) = true := decide_eq_true (by omega); clear c8; replace H := oB H; obtain ⟨t139, A9, H⟩ := H; try dsimp only at H
    have H' := aM H; clear H; have p138 : 0 ≤ (0 : Int) := (by omega); have q138 : 0 < (t135.length : Int) := pI; obtain ⟨ad138, e138, hx138_0⟩ := Kd.at_string (Kd.R_reads' HO137.out).2.2 0 p138 q138; cases e138; have qi138 : (0 < t135.length) = True := eq_true (by omega); (try rw [show ((0 : Int)).toNat = 0 from rfl] at hx138_0); (try rw [Addr.add_zero'] at hx138_0); replace p138 := eq_true p138; replace q138 := eq_true q138; go_wp2_with (first | ((with_reducible refine gC 42 rfl ?_); refine gL_ (some 15) Tryd.func42 #[.string (rdOf ByteArray.empty t135 0)] ?_; (with_reducible refine (impl_small.calls k (rdOf ByteArray.empty t135 0) t139 _ A9.out).mono ?_); rintro e w10 ⟨rfl, hb⟩; refine ⟨_, rfl, ?_⟩; replace HO137 := aM (Kd.R_below (bR HO137) hb); replace BK134 := aM (bLb BK134 hb); replace HB := aM (below_step (bG GE134) hb); (try clear hi))); go_meet
    case rel => exact ⟨_, (t139), bS, H', ⟨zz62⟩, ⟨bL BK134⟩, ⟨bG GE134⟩⟩
   rw [if_neg c8] at H; exact aB H
  rw [if_neg c7] at H; have c7b0 : decide (0 < (t135.length : Int)) = false := decide_eq_false c7; have c7b1 : decide (0 < t135.length) = false := decide_eq_false (by omega); clear c7; (first | rw [c7b0] | rw [c7b1] | (simp only [i64_w, i32_w]; rw [c7b0]) | skip); have H' := aM H; clear H; go_wp2; go_meet
  case rel => exact ⟨_, ((⟨#[]⟩ : ByteArray)), bS, H', ⟨zz62⟩, ⟨bL BK134⟩, ⟨bG GE134⟩⟩
 case rest =>
  clear HC3; obtain ⟨kq, x3_2, rfl, HA, HJ2, BK134, HB⟩ := hcut
  cases kq with
  | zero => exact absurd HA.out (by simp [impl_TypeOf.j0])
  | succ kj2 =>
   have H := HA.out; clear HA; simp only [impl_TypeOf.j0] at H; replace H := oB H; obtain ⟨t140, A11, H⟩ := H; try dsimp only at H
   by_cases c12 : t140 = true
   ·subst c12; replace H : (some (2, 0, 0, 0, 0, 0, 0)) = some (r1, r2, r3, r4, r5, r6, r7) := zz36; simp only [Option.some.injEq, Prod.mk.injEq] at H; obtain ⟨rfl, rfl, rfl, rfl, rfl, rfl, rfl⟩ := H; go_wp2_with (first | ((with_reducible refine gC 43 rfl ?_); refine gL_ (some 18) Tryd.func43 #[.string x3_2, .string (⟨#[109, 117, 108, 116, 105, 112, 97, 114, 116, 47]⟩ : ByteArray)] ?_; (with_reducible refine (strings_HasPrefix.calls x3_2 (⟨#[109, 117, 108, 116, 105, 112, 97, 114, 116, 47]⟩ : ByteArray) true _ A11.out).mono ?_); rintro e w' ⟨rfl, ⟨nd, rfl⟩⟩; refine ⟨_, rfl, ?_⟩; (try (rw [drewN_self wc]; generalize hq_ : World.drewN wc _ = wc; have n0_ : Aside0 (wc.heap[gb134]? = some (.cells #[.int .i64 0, .int .i64 0, .int .i64 0, .int .i64 0, .int .i64 0, .int .i64 0, .int .i64 0] 23 (0, 0))) := ⟨zz66⟩; have n1_ : Aside0 (Below w.heap.size w wc) := ⟨zz65⟩; clear BK134 HB hq_; have BK134 := n0_; have HB := n1_; clear n0_ n1_)); obtain ⟨hcz13_0, hcz13_1, hcz13_2, hcz13_3, hcz13_4, hcz13_5, hcz13_6, hfz13_0, hfz13_1, hfz13_2, hfz13_3, hfz13_4, hfz13_5, hfz13_6⟩ := cC7 BK134.out)); refine bodyPost_ret (results_cell_row rfl _ _ gb134 23 #[.int .i64 2, .int .i64 0, .int .i64 0, .int .i64 0, .int .i64 0, .int .i64 0, .int .i64 0] (0, 0) _ rfl (by (with_reducible repeat (first | refine blk_drewN ?_ _ | refine blk_drew ?_ | refine blk_alloc ?_ _)); refine blk_put (cs := #[.int .i64 2, .int .i64 0, .int .i64 0, .int .i64 0, .int .i64 0, .int .i64 0, .int .i64 0]) ?_ 6 _ rfl; (with_reducible repeat (first | refine blk_drewN ?_ _ | refine blk_drew ?_ | refine blk_alloc ?_ _)); refine blk_put (cs := #[.int .i64 2, .int .i64 0, .int .i64 0, .int .i64 0, .int .i64 0, .int .i64 0, .int .i64 0]) ?_ 5 _ rfl; (with_reducible repeat (first | refine blk_drewN ?_ _ | refine blk_drew ?_ | refine blk_alloc ?_ _)); refine blk_put (cs := #[.int .i64 2, .int .i64 0, .int .i64 0, .int .i64 0, .int .i64 0, .int .i64 0, .int .i64 0]) ?_ 4 _ rfl; (with_reducible repeat (first | refine blk_drewN ?_ _ | refine blk_drew ?_ | refine blk_alloc ?_ _)); refine blk_put (cs := #[.int .i64 2, .int .i64 0, .int .i64 0, .int .i64 0, .int .i64 0, .int .i64 0, .int .i64 0]) ?_ 3 _ rfl; (with_reducible repeat (first | refine blk_drewN ?_ _ | refine blk_drew ?_ | refine blk_alloc ?_ _)); refine blk_put (cs := #[.int .i64 2, .int .i64 0, .int .i64 0, .int .i64 0, .int .i64 0, .int .i64 0, .int .i64 0]) ?_ 2 _ rfl; (with_reducible repeat (first | refine blk_drewN ?_ _ | refine blk_drew ?_ | refine blk_alloc ?_ _)); refine blk_put (cs := #[.int .i64 2, .int .i64 0, .int .i64 0, .int .i64 0, .int .i64 0, .int .i64 0, .int .i64 0]) ?_ 1 _ rfl; (with_reducible repeat (first | refine blk_drewN ?_ _ | refine blk_drew ?_ | refine blk_alloc ?_ _)); refine blk_put (cs := #[.int .i64 0, .int .i64 0, .int .i64 0, .int .i64 0, .int .i64 0, .int .i64 0, .int .i64 0]) ?_ 0 _ rfl; (with_reducible repeat (first | refine blk_drewN ?_ _ | refine blk_drew ?_ | refine blk_alloc ?_ _)); exact BK134.out) Tryd.underlying23 rfl (by kernel_rfl)) rfl ?_; exact ⟨bE, bG GE134⟩
   replace c12 := Bool.eq_false_iff.mpr c12; subst c12; replace H : ((strings_HasPrefix.f x3_2 (⟨#[116, 101, 120, 116, 47]⟩ : ByteArray)).bind fun t141 => (if t141 = true then ((impl_parameter.f kj2 a0 (⟨#[99, 104, 97, 114, 115, 101, 116, 61]⟩ : ByteArray)).bind fun bt142 => (if bt142.2 = true then ((impl_CharsetOf.f kj2 bt142.1).bind fun bt144 => (some (1, bt144.2, 0, 0, 0, 0, 0))) else (some (1, 1, 0, 0, 0, 0, 0)))) else (some (3, 0, 0, 0, 0, 0, 0)))) = some (r1, r2, r3, r4, r5, r6, r7) := zz21; replace H := oB H; obtain ⟨t141, A14, H⟩ := H; try dsimp only at H
   by_cases c15 : t141 = true
   ·subst c15; replace H : ((impl_parameter.f kj2 a0 (⟨#[99, 104, 97, 114, 115, 101, 116, 61]⟩ : ByteArray)).bind fun bt142 => (if bt142.2 = true then ((impl_CharsetOf.f kj2 bt142.1).bind fun bt144 => (some (1, bt144.2, 0, 0, 0, 0, 0))) else (some (1, 1, 0, 0, 0, 0, 0)))) = some (r1, r2, r3, r4, r5, r6, r7) := zz36; replace H := oB H; obtain ⟨⟨t142, t143⟩, A16, H⟩ := H; try dsimp only at H
    by_cases c17 : t143 = true
    ·subst c17; replace H : ((impl_CharsetOf.f kj2 t142).bind fun bt144 => (some (1, bt144.2, 0, 0, 0, 0, 0))) = some (r1, r2, r3, r4, r5, r6, r7) := zz36; replace H := oB H; obtain ⟨⟨t144, t145⟩, A18, H⟩ := H; try dsimp only at H
     simp only [Option.some.injEq, Prod.mk.injEq] at H; obtain ⟨rfl, rfl, rfl, rfl, rfl, rfl, rfl⟩ := H; go_wp2_with (first | ((with_reducible refine gC 43 rfl ?_); refine gL_ (some 18) Tryd.func43 #[.string x3_2, .string (⟨#[109, 117, 108, 116, 105, 112, 97, 114, 116, 47]⟩ : ByteArray)] ?_; (with_reducible refine (strings_HasPrefix.calls x3_2 (⟨#[109, 117, 108, 116, 105, 112, 97, 114, 116, 47]⟩ : ByteArray) false _ A11.out).mono ?_); rintro e w' ⟨rfl, ⟨nd, rfl⟩⟩; refine ⟨_, rfl, ?_⟩; (try (rw [drewN_self wc]; generalize hq_ : World.drewN wc _ = wc; have n0_ : Aside0 (wc.heap[gb134]? = some (.cells #[.int .i64 0, .int .i64 0, .int .i64 0, .int .i64 0, .int .i64 0, .int .i64 0, .int .i64 0] 23 (0, 0))) := ⟨zz66⟩; have n1_ : Aside0 (Below w.heap.size w wc) := ⟨zz65⟩; clear BK134 HB hq_; have BK134 := n0_; have HB := n1_; clear n0_ n1_))) | ((with_reducible refine gC 43 rfl ?_); refine gL_ (some 22) Tryd.func43 #[.string x3_2, .string (⟨#[116, 101, 120, 116, 47]⟩ : ByteArray)] ?_; (with_reducible refine (strings_HasPrefix.calls x3_2 (⟨#[116, 101, 120, 116, 47]⟩ : ByteArray) true _ A14.out).mono ?_); rintro e w' ⟨rfl, ⟨nd, rfl⟩⟩; refine ⟨_, rfl, ?_⟩; (try (rw [drewN_self wc]; generalize hq_ : World.drewN wc _ = wc; have n0_ : Aside0 (wc.heap[gb134]? = some (.cells #[.int .i64 0, .int .i64 0, .int .i64 0, .int .i64 0, .int .i64 0, .int .i64 0, .int .i64 0] 23 (0, 0))) := ⟨zz66⟩; have n1_ : Aside0 (Below w.heap.size w wc) := ⟨zz65⟩; clear BK134 HB hq_; have BK134 := n0_; have HB := n1_; clear n0_ n1_))) | ((with_reducible refine gC 44 rfl ?_); refine gL_ (some 27) Tryd.func44 #[.string a0, .string (⟨#[99, 104, 97, 114, 115, 101, 116, 61]⟩ : ByteArray)] ?_; (with_reducible refine (impl_parameter.calls kj2 a0 (⟨#[99, 104, 97, 114, 115, 101, 116, 61]⟩ : ByteArray) t142 true _ A16.out).mono ?_); rintro e w19 ⟨rfl, hb⟩; refine ⟨_, rfl, ?_⟩; replace BK134 := aM (bLb BK134 hb); replace HB := aM (below_step (bG GE134) hb); (try clear hi)) | ((with_reducible refine gC 45 rfl ?_); refine gL_ (some 34) Tryd.func45 #[.string t142] ?_; (with_reducible refine (impl_CharsetOf.calls kj2 t142 t144 t145 _ A18.out).mono ?_); rintro e w20 ⟨rfl, hb⟩; refine ⟨_, rfl, ?_⟩; replace BK134 := aM (bLb BK134 hb); replace HB := aM (below_step (bG GE134) hb); obtain ⟨hcz21_0, hcz21_1, hcz21_2, hcz21_3, hcz21_4, hcz21_5, hcz21_6, hfz21_0, hfz21_1, hfz21_2, hfz21_3, hfz21_4, hfz21_5, hfz21_6⟩ := cC7 BK134.out)); refine bodyPost_ret (results_cell_row rfl _ _ gb134 23 #[.int .i64 1, .int .i64 t145, .int .i64 0, .int .i64 0, .int .i64 0, .int .i64 0, .int .i64 0] (0, 0) _ rfl (by (with_reducible repeat (first | refine blk_drewN ?_ _ | refine blk_drew ?_ | refine blk_alloc ?_ _)); refine blk_put (cs := #[.int .i64 1, .int .i64 t145, .int .i64 0, .int .i64 0, .int .i64 0, .int .i64 0, .int .i64 0]) ?_ 6 _ rfl; (with_reducible repeat (first | refine blk_drewN ?_ _ | refine blk_drew ?_ | refine blk_alloc ?_ _)); refine blk_put (cs := #[.int .i64 1, .int .i64 t145, .int .i64 0, .int .i64 0, .int .i64 0, .int .i64 0, .int .i64 0]) ?_ 5 _ rfl; (with_reducible repeat (first | refine blk_drewN ?_ _ | refine blk_drew ?_ | refine blk_alloc ?_ _)); refine blk_put (cs := #[.int .i64 1, .int .i64 t145, .int .i64 0, .int .i64 0, .int .i64 0, .int .i64 0, .int .i64 0]) ?_ 4 _ rfl; (with_reducible repeat (first | refine blk_drewN ?_ _ | refine blk_drew ?_ | refine blk_alloc ?_ _)); refine blk_put (cs := #[.int .i64 1, .int .i64 t145, .int .i64 0, .int .i64 0, .int .i64 0, .int .i64 0, .int .i64 0]) ?_ 3 _ rfl; (with_reducible repeat (first | refine blk_drewN ?_ _ | refine blk_drew ?_ | refine blk_alloc ?_ _)); refine blk_put (cs := #[.int .i64 1, .int .i64 t145, .int .i64 0, .int .i64 0, .int .i64 0, .int .i64 0, .int .i64 0]) ?_ 2 _ rfl; (with_reducible repeat (first | refine blk_drewN ?_ _ | refine blk_drew ?_ | refine blk_alloc ?_ _)); refine blk_put (cs := #[.int .i64 1, .int .i64 0, .int .i64 0, .int .i64 0, .int .i64 0, .int .i64 0, .int .i64 0]) ?_ 1 _ rfl; (with_reducible repeat (first | refine blk_drewN ?_ _ | refine blk_drew ?_ | refine blk_alloc ?_ _)); refine blk_put (cs := #[.int .i64 0, .int .i64 0, .int .i64 0, .int .i64 0, .int .i64 0, .int .i64 0, .int .i64 0]) ?_ 0 _ rfl; (with_reducible repeat (first | refine blk_drewN ?_ _ | refine blk_drew ?_ | refine blk_alloc ?_ _)); exact BK134.out) Tryd.underlying23 rfl (by kernel_rfl)) rfl ?_; exact ⟨bE, bG GE134⟩
    replace c17 := Bool.eq_false_iff.mpr c17; subst c17; replace H : (some (1, 1, 0, 0, 0, 0, 0)) = some (r1, r2, r3, r4, r5, r6, r7) := zz21; simp only [Option.some.injEq, Prod.mk.injEq] at H; obtain ⟨rfl, rfl, rfl, rfl, rfl, rfl, rfl⟩ := H; go_wp2_with (first | ((with_reducible refine gC 43 rfl ?_); refine gL_ (some 18) Tryd.func43 #[.string x3_2, .string (⟨#[109, 117, 108, 116, 105, 112, 97, 114, 116, 47]⟩ : ByteArray)] ?_; (with_reducible refine (strings_HasPrefix.calls x3_2 (⟨#[109, 117, 108, 116, 105, 112, 97, 114, 116, 47]⟩ : ByteArray) false _ A11.out).mono ?_); rintro e w' ⟨rfl, ⟨nd, rfl⟩⟩; refine ⟨_, rfl, ?_⟩; (try (rw [drewN_self wc]; generalize hq_ : World.drewN wc _ = wc; have n0_ : Aside0 (wc.heap[gb134]? = some (.cells #[.int .i64 0, .int .i64 0, .int .i64 0, .int .i64 0, .int .i64 0, .int .i64 0, .int .i64 0] 23 (0, 0))) := ⟨zz66⟩; have n1_ : Aside0 (Below w.heap.size w wc) := ⟨zz65⟩; clear BK134 HB hq_; have BK134 := n0_; have HB := n1_; clear n0_ n1_))) | ((with_reducible refine gC 43 rfl ?_); refine gL_ (some 22) Tryd.func43 #[.string x3_2, .string (⟨#[116, 101, 120, 116, 47]⟩ : ByteArray)] ?_; (with_reducible refine (strings_HasPrefix.calls x3_2 (⟨#[116, 101, 120, 116, 47]⟩ : ByteArray) true _ A14.out).mono ?_); rintro e w' ⟨rfl, ⟨nd, rfl⟩⟩; refine ⟨_, rfl, ?_⟩; (try (rw [drewN_self wc]; generalize hq_ : World.drewN wc _ = wc; have n0_ : Aside0 (wc.heap[gb134]? = some (.cells #[.int .i64 0, .int .i64 0, .int .i64 0, .int .i64 0, .int .i64 0, .int .i64 0, .int .i64 0] 23 (0, 0))) := ⟨zz66⟩; have n1_ : Aside0 (Below w.heap.size w wc) := ⟨zz65⟩; clear BK134 HB hq_; have BK134 := n0_; have HB := n1_; clear n0_ n1_))) | ((with_reducible refine gC 44 rfl ?_); refine gL_ (some 27) Tryd.func44 #[.string a0, .string (⟨#[99, 104, 97, 114, 115, 101, 116, 61]⟩ : ByteArray)] ?_; (with_reducible refine (impl_parameter.calls kj2 a0 (⟨#[99, 104, 97, 114, 115, 101, 116, 61]⟩ : ByteArray) t142 false _ A16.out).mono ?_); rintro e w22 ⟨rfl, hb⟩; refine ⟨_, rfl, ?_⟩; replace BK134 := aM (bLb BK134 hb); replace HB := aM (below_step (bG GE134) hb); obtain ⟨hcz23_0, hcz23_1, hcz23_2, hcz23_3, hcz23_4, hcz23_5, hcz23_6, hfz23_0, hfz23_1, hfz23_2, hfz23_3, hfz23_4, hfz23_5, hfz23_6⟩ := cC7 BK134.out)); refine bodyPost_ret (results_cell_row rfl _ _ gb134 23 #[.int .i64 1, .int .i64 1, .int .i64 0, .int .i64 0, .int .i64 0, .int .i64 0, .int .i64 0] (0, 0) _ rfl (by (with_reducible repeat (first | refine blk_drewN ?_ _ | refine blk_drew ?_ | refine blk_alloc ?_ _)); refine blk_put (cs := #[.int .i64 1, .int .i64 1, .int .i64 0, .int .i64 0, .int .i64 0, .int .i64 0, .int .i64 0]) ?_ 6 _ rfl; (with_reducible repeat (first | refine blk_drewN ?_ _ | refine blk_drew ?_ | refine blk_alloc ?_ _)); refine blk_put (cs := #[.int .i64 1, .int .i64 1, .int .i64 0, .int .i64 0, .int .i64 0, .int .i64 0, .int .i64 0]) ?_ 5 _ rfl; (with_reducible repeat (first | refine blk_drewN ?_ _ | refine blk_drew ?_ | refine blk_alloc ?_ _)); refine blk_put (cs := #[.int .i64 1, .int .i64 1, .int .i64 0, .int .i64 0, .int .i64 0, .int .i64 0, .int .i64 0]) ?_ 4 _ rfl; (with_reducible repeat (first | refine blk_drewN ?_ _ | refine blk_drew ?_ | refine blk_alloc ?_ _)); refine blk_put (cs := #[.int .i64 1, .int .i64 1, .int .i64 0, .int .i64 0, .int .i64 0, .int .i64 0, .int .i64 0]) ?_ 3 _ rfl; (with_reducible repeat (first | refine blk_drewN ?_ _ | refine blk_drew ?_ | refine blk_alloc ?_ _)); refine blk_put (cs := #[.int .i64 1, .int .i64 1, .int .i64 0, .int .i64 0, .int .i64 0, .int .i64 0, .int .i64 0]) ?_ 2 _ rfl; (with_reducible repeat (first | refine blk_drewN ?_ _ | refine blk_drew ?_ | refine blk_alloc ?_ _)); refine blk_put (cs := #[.int .i64 1, .int .i64 0, .int .i64 0, .int .i64 0, .int .i64 0, .int .i64 0, .int .i64 0]) ?_ 1 _ rfl; (with_reducible repeat (first | refine blk_drewN ?_ _ | refine blk_drew ?_ | refine blk_alloc ?_ _)); refine blk_put (cs := #[.int .i64 0, .int .i64 0, .int .i64 0, .int .i64 0, .int .i64 0, .int .i64 0, .int .i64 0]) ?_ 0 _ rfl; (with_reducible repeat (first | refine blk_drewN ?_ _ | refine blk_drew ?_ | refine blk_alloc ?_ _)); exact BK134.out) Tryd.underlying23 rfl (by kernel_rfl)) rfl ?_; exact ⟨bE, bG GE134⟩
   replace c15 := Bool.eq_false_iff.mpr c15; subst c15; replace H : (some (3, 0, 0, 0, 0, 0, 0)) = some (r1, r2, r3, r4, r5, r6, r7) := zz21; simp only [Option.some.injEq, Prod.mk.injEq] at H; obtain ⟨rfl, rfl, rfl, rfl, rfl, rfl, rfl⟩ := H; go_wp2_with (first | ((with_reducible refine gC 43 rfl ?_); refine gL_ (some 18) Tryd.func43 #[.string x3_2, .string (⟨#[109, 117, 108, 116, 105, 112, 97, 114, 116, 47]⟩ : ByteArray)] ?_; (with_reducible refine (strings_HasPrefix.calls x3_2 (⟨#[109, 117, 108, 116, 105, 112, 97, 114, 116, 47]⟩ : ByteArray) false _ A11.out).mono ?_); rintro e w' ⟨rfl, ⟨nd, rfl⟩⟩; refine ⟨_, rfl, ?_⟩; (try (rw [drewN_self wc]; generalize hq_ : World.drewN wc _ = wc; have n0_ : Aside0 (wc.heap[gb134]? = some (.cells #[.int .i64 0, .int .i64 0, .int .i64 0, .int .i64 0, .int .i64 0, .int .i64 0, .int .i64 0] 23 (0, 0))) := ⟨zz66⟩; have n1_ : Aside0 (Below w.heap.size w wc) := ⟨zz65⟩; clear BK134 HB hq_; have BK134 := n0_; have HB := n1_; clear n0_ n1_))) | ((with_reducible refine gC 43 rfl ?_); refine gL_ (some 22) Tryd.func43 #[.string x3_2, .string (⟨#[116, 101, 120, 116, 47]⟩ : ByteArray)] ?_; (with_reducible refine (strings_HasPrefix.calls x3_2 (⟨#[116, 101, 120, 116, 47]⟩ : ByteArray) false _ A14.out).mono ?_); rintro e w' ⟨rfl, ⟨nd, rfl⟩⟩; refine ⟨_, rfl, ?_⟩; (try (rw [drewN_self wc]; generalize hq_ : World.drewN wc _ = wc; have n0_ : Aside0 (wc.heap[gb134]? = some (.cells #[.int .i64 0, .int .i64 0, .int .i64 0, .int .i64 0, .int .i64 0, .int .i64 0, .int .i64 0] 23 (0, 0))) := ⟨zz66⟩; have n1_ : Aside0 (Below w.heap.size w wc) := ⟨zz65⟩; clear BK134 HB hq_; have BK134 := n0_; have HB := n1_; clear n0_ n1_)); obtain ⟨hcz24_0, hcz24_1, hcz24_2, hcz24_3, hcz24_4, hcz24_5, hcz24_6, hfz24_0, hfz24_1, hfz24_2, hfz24_3, hfz24_4, hfz24_5, hfz24_6⟩ := cC7 BK134.out)); refine bodyPost_ret (results_cell_row rfl _ _ gb134 23 #[.int .i64 3, .int .i64 0, .int .i64 0, .int .i64 0, .int .i64 0, .int .i64 0, .int .i64 0] (0, 0) _ rfl (by (with_reducible repeat (first | refine blk_drewN ?_ _ | refine blk_drew ?_ | refine blk_alloc ?_ _)); refine blk_put (cs := #[.int .i64 3, .int .i64 0, .int .i64 0, .int .i64 0, .int .i64 0, .int .i64 0, .int .i64 0]) ?_ 6 _ rfl; (with_reducible repeat (first | refine blk_drewN ?_ _ | refine blk_drew ?_ | refine blk_alloc ?_ _)); refine blk_put (cs := #[.int .i64 3, .int .i64 0, .int .i64 0, .int .i64 0, .int .i64 0, .int .i64 0, .int .i64 0]) ?_ 5 _ rfl; (with_reducible repeat (first | refine blk_drewN ?_ _ | refine blk_drew ?_ | refine blk_alloc ?_ _)); refine blk_put (cs := #[.int .i64 3, .int .i64 0, .int .i64 0, .int .i64 0, .int .i64 0, .int .i64 0, .int .i64 0]) ?_ 4 _ rfl; (with_reducible repeat (first | refine blk_drewN ?_ _ | refine blk_drew ?_ | refine blk_alloc ?_ _)); refine blk_put (cs := #[.int .i64 3, .int .i64 0, .int .i64 0, .int .i64 0, .int .i64 0, .int .i64 0, .int .i64 0]) ?_ 3 _ rfl; (with_reducible repeat (first | refine blk_drewN ?_ _ | refine blk_drew ?_ | refine blk_alloc ?_ _)); refine blk_put (cs := #[.int .i64 3, .int .i64 0, .int .i64 0, .int .i64 0, .int .i64 0, .int .i64 0, .int .i64 0]) ?_ 2 _ rfl; (with_reducible repeat (first | refine blk_drewN ?_ _ | refine blk_drew ?_ | refine blk_alloc ?_ _)); refine blk_put (cs := #[.int .i64 3, .int .i64 0, .int .i64 0, .int .i64 0, .int .i64 0, .int .i64 0, .int .i64 0]) ?_ 1 _ rfl; (with_reducible repeat (first | refine blk_drewN ?_ _ | refine blk_drew ?_ | refine blk_alloc ?_ _)); refine blk_put (cs := #[.int .i64 0, .int .i64 0, .int .i64 0, .int .i64 0, .int .i64 0, .int .i64 0, .int .i64 0]) ?_ 0 _ rfl; (with_reducible repeat (first | refine blk_drewN ?_ _ | refine blk_drew ?_ | refine blk_alloc ?_ _)); exact BK134.out) Tryd.underlying23 rfl (by kernel_rfl)) rfl ?_; exact ⟨bE, bG GE134⟩
def impl_within.f (a0 : Int) (a1 : Int) (a2 : Int) : Option (Bool) := if a0 ≥ a1 then (some (decide (a0 ≤ a2))) else (some false)
theorem impl_within.calls (a0 : Int) (a1 : Int) (a2 : Int) (r : Bool) (w : World) (h : impl_within.f a0 a1 a2 = some r) :
  Calls Tryd.prog 84 #[.int .i64 a0, .int .i64 a1, .int .i64 a2] w fun e w' => e = .returned (.bool r) ∧ Drawn0 w w' := by
 have H : (if a0 ≥ a1 then (some (decide (a0 ≤ a2))) else (some false)) = some r := h; clear h; by_cases c4 : a0 ≥ a1
 ·rw [if_pos c4] at H; have c4b0 : decide (a1 ≤ a0) = true := decide_eq_true c4; clear c4; obtain rfl := Option.some.inj H; go_enter Tryd.func84, Tryd.ntmps84; go_wp2; go_ret; exact ⟨bS, zz10⟩
 rw [if_neg c4] at H; have c4b0 : decide (a1 ≤ a0) = false := decide_eq_false c4; clear c4; obtain rfl := Option.some.inj H; go_enter Tryd.func84, Tryd.ntmps84; go_wp2; go_ret; exact ⟨bS, zz10⟩
def impl_Part_85.f (l0 : List (S23)) : Option (Int) := some (l0.length : Int)
theorem impl_Part_85.calls (A0 : Option Addr) (c0 : Nat) (l0 : List (S23)) (r : Int) (w : World) (hr0 : Kd.C k23 w A0 l0.length l0) (hc0 : l0.length ≤ c0) (h : impl_Part_85.f l0 = some r) :
  Calls Tryd.prog 85 #[.slice A0 l0.length c0] w fun e w' => e = .returned (.int .i64 r) ∧ Drawn0 w w' := by
 have HR0 := aM hr0; have HC0 := aM hc0; clear hr0 hc0; have H : (some (l0.length : Int)) = some r := h; clear h; obtain rfl := Option.some.inj H; go_enter Tryd.func85, Tryd.ntmps85; go_wp2; go_ret; exact ⟨bS, zz10⟩
open Go.Shelf in
def bytes_IndexByte.sh_lays187_ren : Go.Shelf.Ren := ⟨fun | 187 => 117 | 255 => 137 | n => n, fun | 37 => 27 | 5 => 5 | 3 => 3 | n => n, fun | n => n⟩
open Go.Shelf in
theorem bytes_IndexByte.sh_lays187 : Go.Proofs.Lays.n187 Tryd.prog bytes_IndexByte.sh_lays187_ren := {
  mixed := by kernel_rfl
  f187 := Tryd.func117.trans (congrArg some (by kernel_rfl))
  f255 := Tryd.func137.trans (congrArg some (by kernel_rfl))
  t3 := Tryd.underlying3
  a3 := Tryd.isAgg3
  z3 := Tryd.sizeOf3
  v3 := Tryd.zeroValue3
  t5 := Tryd.underlying5
  a5 := Tryd.isAgg5
  z5 := Tryd.sizeOf5
  v5 := Tryd.zeroValue5
  t37 := Tryd.underlying27
  a37 := Tryd.isAgg27
  z37 := Tryd.sizeOf27
  v37 := Tryd.zeroValue27 }
open Go.Shelf in
open Go.RowKit Go.Lib in
theorem bytes_IndexByte.sh_bytes_IndexByte_at (a : Addr) (n c : Nat) (xs : List Int) (cv : Int) (w : World) (hx : xs.length = n) (hc : ∀ i, i < n → w.cell? (a.add i) = some (.int .u8 (xs.getD i 0))) :
    Calls Tryd.prog 117 #[.slice (some a) n c, .int .u8 cv] w fun e w' => e = .returned (.int .i64 (Lib.indexByte (Lib.bytesOf xs) cv.toNat.toUInt8)) ∧ w' = w := Any.bytes_IndexByte_at bytes_IndexByte.sh_lays187 a n c xs cv w hx hc
def bytes_IndexByte.f (l0 : List Int) (a1 : Int) : Option Int := if 0 < l0.length then some (Lib.indexByte (Lib.bytesOf l0) a1.toNat.toUInt8) else none
theorem bytes_IndexByte.calls (A0 : Option Addr) (c0 : Nat) (l0 : List Int) (a1 : Int) (r : Int) (w : World) (hr0 : Kd.C (Kd.int .u8) w A0 l0.length l0) (hc0 : l0.length ≤ c0) (h : bytes_IndexByte.f l0 a1 = some r) :
    Calls Tryd.prog 117 #[.slice A0 l0.length c0, .int .u8 a1] w fun e w' => e = .returned (.int .i64 r) ∧ Drawn0 w w' := by
  unfold bytes_IndexByte.f at h; by_cases h0 : 0 < l0.length
  · rw [if_pos h0] at h; cases h; obtain ⟨ad, rfl, hc⟩ := (Kd.reads_of_C (d := (0 : Int)) hr0).2.2 h0; refine (bytes_IndexByte.sh_bytes_IndexByte_at ad l0.length c0 l0 a1 w rfl (fun i hi => hc i hi)).mono ?_; rintro e w' ⟨rfl, rfl⟩; exact ⟨rfl, Drawn0.refl _⟩
  rw [if_neg h0] at h; cases h
def impl_isBlank.f (a0 : Int) : Option (Bool) := if a0 = 32 then (some true) else (some (a0 == 9))
theorem impl_isBlank.calls (a0 : Int) (r : Bool) (w : World) (h : impl_isBlank.f a0 = some r) :
  Calls Tryd.prog 132 #[.int .u8 a0] w fun e w' => e = .returned (.bool r) ∧ Drawn0 w w' := by
 have H : (if a0 = 32 then (some true) else (some (a0 == 9))) = some r := h; clear h; by_cases c2 : a0 = 32
 ·rw [if_pos c2] at H; have c2b0 : (a0 == 32) = true := beq_iff_eq.mpr c2; have c2b1 : (a0 != 32) = false := bne_eq_false_iff_eq.mpr c2; clear c2; obtain rfl := Option.some.inj H; go_enter Tryd.func132, Tryd.ntmps132; go_wp2; go_ret; exact ⟨bS, zz10⟩
 rw [if_neg c2] at H; have c2b0 : (a0 == 32) = false := beq_eq_false_iff_ne.mpr c2; have c2b1 : (a0 != 32) = true := bne_iff_ne.mpr c2; obtain rfl := Option.some.inj H; go_enter Tryd.func132, Tryd.ntmps132; go_wp2; go_ret; exact ⟨bS, zz10⟩
open Go.Shelf in
def stringslite_Index.sh_lays219_ren : Go.Shelf.Ren := ⟨fun | 219 => 152 | 217 => 155 | 225 => 149 | 224 => 119 | 267 => 157 | 266 => 158 | 314 => 159 | n => n, fun | 9 => 9 | 3 => 3 | 4 => 4 | 5 => 5 | 46 => 142 | 146 => 156 | 51 => 155 | n => n, fun | 1 => 0 | n => n⟩
open Go.Shelf in
theorem stringslite_Index.sh_lays219 : Go.Proofs.Lays.n219 Tryd.prog stringslite_Index.sh_lays219_ren := {
  mixed := by kernel_rfl
  f217 := Tryd.func155.trans (congrArg some (by kernel_rfl))
  f219 := Tryd.func152.trans (congrArg some (by kernel_rfl))
  f224 := Tryd.func119.trans (congrArg some (by kernel_rfl))
  f225 := Tryd.func149.trans (congrArg some (by kernel_rfl))
  f266 := Tryd.func158.trans (congrArg some (by kernel_rfl))
  f267 := Tryd.func157.trans (congrArg some (by kernel_rfl))
  f314 := Tryd.func159.trans (congrArg some (by kernel_rfl))
  t3 := Tryd.underlying3
  a3 := Tryd.isAgg3
  z3 := Tryd.sizeOf3
  v3 := Tryd.zeroValue3
  t4 := Tryd.underlying4
  a4 := Tryd.isAgg4
  z4 := Tryd.sizeOf4
  v4 := Tryd.zeroValue4
  t5 := Tryd.underlying5
  a5 := Tryd.isAgg5
  z5 := Tryd.sizeOf5
  v5 := Tryd.zeroValue5
  t9 := Tryd.underlying9
  a9 := Tryd.isAgg9
  z9 := Tryd.sizeOf9
  v9 := Tryd.zeroValue9
  t46 := Tryd.underlying142
  a46 := Tryd.isAgg142
  z46 := Tryd.sizeOf142
  v46 := Tryd.zeroValue142
  t51 := Tryd.underlying155
  a51 := Tryd.isAgg155
  z51 := Tryd.sizeOf155
  v51 := Tryd.zeroValue155
  t146 := Tryd.underlying156
  a146 := Tryd.isAgg156
  z146 := Tryd.sizeOf156
  v146 := Tryd.zeroValue156
  g1 := by kernel_rfl }
open Go.Shelf in
open Go.RowKit Go.Lib in
theorem stringslite_Index.sh_stringslite_Index_one (s : ByteArray) (c : UInt8) (w : World) :
    Calls Tryd.prog 152 #[.string s, .string ⟨#[c]⟩] w fun e w' => e = .returned (.int .i64 (Lib.indexByte s.data.toList c)) ∧ w' = w := Any.stringslite_Index_one stringslite_Index.sh_lays219 s c w
def stringslite_Index.f (a0 : ByteArray) (a1 : ByteArray) : Option Int := if a1.size = 1 then some (Lib.indexByte a0.data.toList (bt a1 0).toNat.toUInt8) else none
theorem stringslite_Index.one (a : ByteArray) (h : a.size = 1) : a = ⟨#[(bt a 0).toNat.toUInt8]⟩ := by
  match a, h with
  | ⟨⟨[c]⟩⟩, _ =>
    have : (bt (⟨⟨[c]⟩⟩ : ByteArray) 0).toNat.toUInt8 = c := by
      show ((c.toNat : Int)).toNat.toUInt8 = c
      simp
    rw [this]
theorem stringslite_Index.calls (a0 : ByteArray) (a1 : ByteArray) (r : Int) (w : World) (h : stringslite_Index.f a0 a1 = some r) :
    Calls Tryd.prog 152 #[.string a0, .string a1] w fun e w' => e = .returned (.int .i64 r) ∧ Drawn0 w w' := by
  unfold stringslite_Index.f at h; by_cases h1 : a1.size = 1
  · rw [if_pos h1] at h; cases h; have e := stringslite_Index.one a1 h1; have hc := stringslite_Index.sh_stringslite_Index_one a0 (bt a1 0).toNat.toUInt8 w; rw [← e] at hc; refine hc.mono ?_; rintro e w' ⟨rfl, rfl⟩; exact ⟨rfl, Drawn0.refl _⟩
  rw [if_neg h1] at h; cases h
def stringslite_Cut.f (a0 : ByteArray) (a1 : ByteArray) : Option (ByteArray × ByteArray × Bool) := (stringslite_Index.f a0 a1).bind fun t146 => (if t146 ≥ 0 then (if 0 ≤ t146 then (if t146 ≤ (a0.size : Int) then (if 0 ≤ (wrap64 (t146 + (a1.size : Int))) then (if (wrap64 (t146 + (a1.size : Int))) ≤ (a0.size : Int) then (some (a0.extract 0 (t146 : Int).toNat, a0.extract ((wrap64 (t146 + (a1.size : Int))) : Int).toNat a0.size, true)) else (none)) else (none)) else (none)) else (none)) else (some (a0, (⟨#[]⟩ : ByteArray), false)))
theorem stringslite_Cut.calls (a0 : ByteArray) (a1 : ByteArray) (r1 : ByteArray) (r2 : ByteArray) (r3 : Bool) (w : World) (h : stringslite_Cut.f a0 a1 = some (r1, r2, r3)) :
  Calls Tryd.prog 144 #[.string a0, .string a1] w fun e w' => e = .returned (.tuple #[.string r1, .string r2, .bool r3]) ∧ Drawn0 w w' := by
 have H : ((stringslite_Index.f a0 a1).bind fun t146 => (if t146 ≥ 0 then (if 0 ≤ t146 then (if t146 ≤ (a0.size : Int) then (if 0 ≤ (wrap64 (t146 + (a1.size : Int))) then (if (wrap64 (t146 + (a1.size : Int))) ≤ (a0.size : Int) then (some (a0.extract 0 (t146 : Int).toNat, a0.extract ((wrap64 (t146 + (a1.size : Int))) : Int).toNat a0.size, true)) else (none)) else (none)) else (none)) else (none)) else (some (a0, (⟨#[]⟩ : ByteArray), false)))) = some (r1, r2, r3) := h; clear h; replace H := oB H; obtain ⟨t146, A3, H⟩ := H; try dsimp only at H
 by_cases c4 : t146 ≥ 0
 ·rw [if_pos c4] at H; have c4b0 : decide (0 ≤ t146) = true := decide_eq_true c4; clear c4; by_cases c5 : 0 ≤ t146
  ·rw [if_pos c5] at H; have c5b0 := eq_true c5; have c5b1 := decide_eq_true c5; clear c5; by_cases c6 : t146 ≤ (a0.size : Int)
   ·rw [if_pos c6] at H; have c6b0 := eq_true c6; have c6b1 := decide_eq_true c6; clear c6; obtain ⟨ji7, hji7⟩ : ∃ j_ : Int, (wrap64 (t146 + (a1.size : Int))) = j_ := ⟨_, rfl⟩; replace H : (if 0 ≤ (ji7) then (if (ji7) ≤ (a0.size : Int) then (some (a0.extract 0 (t146 : Int).toNat, a0.extract ((ji7) : Int).toNat a0.size, true)) else (none)) else (none)) = some (r1, r2, r3) := by first | (rw [hji7] at H; exact H) | (simp only [hji7] at H ⊢; exact H)
    (try rw [hji7] at A3); have hji7w : (IntKind.i64.wrap (t146 + (a1.size : Int))) = ji7 := (i64_w _).trans hji7; by_cases c8 : 0 ≤ (ji7)
    ·rw [if_pos c8] at H; have c8b0 := eq_true c8; have c8b1 := decide_eq_true c8; clear c8; by_cases c9 : (ji7) ≤ (a0.size : Int)
     ·rw [if_pos c9] at H; have c9b0 := eq_true c9; have c9b1 := decide_eq_true c9; clear c9; simp only [Option.some.injEq, Prod.mk.injEq] at H; obtain ⟨rfl, rfl, rfl⟩ := H; go_enter Tryd.func144, Tryd.ntmps144; iterate 8 (go_wp2_with (first | (go_at_call 152; (with_reducible refine (stringslite_Index.calls a0 a1 t146 _ A3.out).mono ?_); rintro e w' ⟨rfl, ⟨nd, rfl⟩⟩; (try first | exact ⟨rfl, _, World.drewN_drewN _ _ _⟩ | exact ⟨rfl, _, Eq.trans (World.drewN_drewN _ _ _) (congrArg (World.drewN _) (Nat.add_assoc _ _ _))⟩))); try go_quiet (first | (go_at_call 152; (with_reducible refine (stringslite_Index.calls a0 a1 t146 _ A3.out).mono ?_); rintro e w' ⟨rfl, ⟨nd, rfl⟩⟩; (try first | exact ⟨rfl, _, World.drewN_drewN _ _ _⟩ | exact ⟨rfl, _, Eq.trans (World.drewN_drewN _ _ _) (congrArg (World.drewN _) (Nat.add_assoc _ _ _))⟩))))
      go_ret3; exact ⟨by first | rfl | (simp; done) | (simp only [← hji7] <;> (first | rfl | simp)) | (simp [*]; done), zz10⟩
     rw [if_neg c9] at H; exact aB H
    rw [if_neg c8] at H; exact aB H
   rw [if_neg c6] at H; exact aB H
  rw [if_neg c5] at H; exact aB H
 rw [if_neg c4] at H; have c4b0 : decide (0 ≤ t146) = false := decide_eq_false c4; clear c4; simp only [Option.some.injEq, Prod.mk.injEq] at H; obtain ⟨rfl, rfl, rfl⟩ := H; go_enter Tryd.func144, Tryd.ntmps144; iterate 8 (go_wp2_with (first | (go_at_call 152; (with_reducible refine (stringslite_Index.calls a0 a1 t146 _ A3.out).mono ?_); rintro e w' ⟨rfl, ⟨nd, rfl⟩⟩; (try first | exact ⟨rfl, _, World.drewN_drewN _ _ _⟩ | exact ⟨rfl, _, Eq.trans (World.drewN_drewN _ _ _) (congrArg (World.drewN _) (Nat.add_assoc _ _ _))⟩))); try go_quiet (first | (go_at_call 152; (with_reducible refine (stringslite_Index.calls a0 a1 t146 _ A3.out).mono ?_); rintro e w' ⟨rfl, ⟨nd, rfl⟩⟩; (try first | exact ⟨rfl, _, World.drewN_drewN _ _ _⟩ | exact ⟨rfl, _, Eq.trans (World.drewN_drewN _ _ _) (congrArg (World.drewN _) (Nat.add_assoc _ _ _))⟩))))
 go_ret3; exact ⟨bS, zz10⟩
def strings_Cut.f (a0 : ByteArray) (a1 : ByteArray) : Option (ByteArray × ByteArray × Bool) := (stringslite_Cut.f a0 a1).bind fun bt147 => (some (bt147.1, bt147.2.1, bt147.2.2))
theorem strings_Cut.calls (a0 : ByteArray) (a1 : ByteArray) (r1 : ByteArray) (r2 : ByteArray) (r3 : Bool) (w : World) (h : strings_Cut.f a0 a1 = some (r1, r2, r3)) :
  Calls Tryd.prog 133 #[.string a0, .string a1] w fun e w' => e = .returned (.tuple #[.string r1, .string r2, .bool r3]) ∧ Drawn0 w w' := by
 have H : ((stringslite_Cut.f a0 a1).bind fun bt147 => (some (bt147.1, bt147.2.1, bt147.2.2))) = some (r1, r2, r3) := h; clear h; replace H := oB H; obtain ⟨⟨t147, t148, t149⟩, A3, H⟩ := H; try dsimp only at H
 simp only [Option.some.injEq, Prod.mk.injEq] at H; obtain ⟨rfl, rfl, rfl⟩ := H; go_enter Tryd.func133, Tryd.ntmps133; go_wp2_with (first | ((with_reducible refine gC 144 rfl ?_); refine gL_ (some 9) Tryd.func144 #[.string a0, .string a1] ?_; (with_reducible refine (stringslite_Cut.calls a0 a1 t147 t148 t149 _ A3.out).mono ?_); rintro e w' ⟨rfl, ⟨nd, rfl⟩⟩; refine ⟨_, rfl, ?_⟩)); go_ret3; exact ⟨bS, zz10⟩
end Go.Proofs.YtecpanfndodjgaaDoor.PBuilds
