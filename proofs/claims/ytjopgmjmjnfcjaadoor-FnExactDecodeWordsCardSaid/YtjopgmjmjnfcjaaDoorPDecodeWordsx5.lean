/- Part of the proof; words that it uses. -/
import Derived.Test.YtjopgmjmjnfcjaaDoorPDecodeWordsx0
import Derived.Test.YtjopgmjmjnfcjaaDoorPDecodeWordsx4
namespace Go.Proofs.YtjopgmjmjnfcjaaDoor.PDecodeWords
open Go.RowKit Go.Proofs.YtjopgmjmjnfcjaaDoorW.PrintWords Go.Proofs.YtjopgmjmjnfcjaaDoorW.PrintLast
set_option linter.unusedVariables false
set_option linter.unusedSimpArgs false
def spec_DecodeWords.f (k : Nat) (a0 : ByteArray) : Option (Int × List Int) := if (a0.size : Int) > 400 then (some (2, ([] : List Int))) else ((spec_l4Words.f k a0).bind fun t255 => (if (t255.length : Int) > 400 then (some (2, ([] : List Int))) else (some (0, t255))))
set_option maxHeartbeats 8000000 in
set_option maxRecDepth 100000 in
theorem spec_DecodeWords.calls (k : Nat) (a0 : ByteArray) (r1 : Int) (r2 : List Int) (w : World) (h : spec_DecodeWords.f k a0 = some (r1, r2)) :
  Calls Tryd.prog 17 #[.string a0] w fun e w' => ∃ v1_ : Value, e = .returned (.agg #[.int .i64 r1, v1_]) ∧ Kd.R (Kd.int .i64) 2 w' w.heap.size (fun _ => True) v1_ r2 ∧ Below w.heap.size w w' := by
 have hu39 := Tryd.underlying39
 have HB := Aside0.mk (Below.refl w.heap.size w)
 have H : (if (a0.size : Int) > 400 then (some (2, ([] : List Int))) else ((spec_l4Words.f k a0).bind fun t255 => (if (t255.length : Int) > 400 then (some (2, ([] : List Int))) else (some (0, t255))))) = some (r1, r2) := h
 clear h
 by_cases c2 : (a0.size : Int) > 400
 ·rw [if_pos c2] at H
  have c2b0 : decide (400 < (a0.size : Int)) = true := decide_eq_true c2
  have c2b1 : decide (400 < a0.size) = true := decide_eq_true (by omega)
  clear c2
  simp only [Option.some.injEq, Prod.mk.injEq] at H
  obtain ⟨rfl, rfl⟩ := H
  go_enter Tryd.func17, Tryd.ntmps17
  go_wp2_with (first | ((with_reducible refine gate_dst (N := 2) rfl ?_); refine box_event ?hg (N := 2) ?hd (cs := #[.int .i64 0, .slice none 0 0]) (t := 39) ?hr ?_; (case hd => rfl); (case hg => rfl); (case hr => exact z11); intro gb254 hg w3 hbox hb; have BK254 := Aside0.mk (hbox); have GW254 := Aside0.mk ((z18 : w.heap.size ≤ gb254)); have GE254 := Aside0.mk ((z18 : w.heap.size ≤ gb254)); replace HB := Aside0.mk (below_step bB hb); clear hb hbox hg; have hcz4_0 : w3.cell? ⟨gb254, 0, none⟩ = some (.int .i64 0) := (blk_cell BK254.out 0).trans rfl; have hcz4_1 : w3.cell? ⟨gb254, 1, none⟩ = some (.slice none 0 0) := (blk_cell BK254.out 1).trans rfl; have hfz4_0 := blk_frozen BK254.out 0; have hfz4_1 := blk_frozen BK254.out 1))
  refine bodyPost_ret (results_cell_row rfl _ _ gb254 39 #[.int .i64 2, .slice none 0 0] (0, 0) _ rfl (z15 BK254.out) Tryd.underlying39 rfl (by kernel_rfl)) rfl ?_
  exact ⟨_, bE, z4, bG GE254⟩
 ·rw [if_neg c2] at H
  have c2b0 : decide (400 < (a0.size : Int)) = false := decide_eq_false c2
  have c2b1 : decide (400 < a0.size) = false := decide_eq_false (by omega)
  clear c2
  replace H := Option.bind_eq_some_iff.mp H
  obtain ⟨t255, A50, H⟩ := H
  replace H : (if (t255.length : Int) > 400 then (some (2, ([] : List Int))) else (some (0, t255))) = some (r1, r2) := H
  have A5 := Aside0.mk A50
  clear A50
  by_cases c6 : (t255.length : Int) > 400
  ·rw [if_pos c6] at H
   have c6b0 : decide (400 < (t255.length : Int)) = true := decide_eq_true c6
   have c6b1 : decide (400 < t255.length) = true := decide_eq_true (by omega)
   clear c6
   simp only [Option.some.injEq, Prod.mk.injEq] at H
   obtain ⟨rfl, rfl⟩ := H
   go_enter Tryd.func17, Tryd.ntmps17
   go_wp2_with (first | ((with_reducible refine gate_dst (N := 2) rfl ?_); refine box_event ?hg (N := 2) ?hd (cs := #[.int .i64 0, .slice none 0 0]) (t := 39) ?hr ?_; (case hd => rfl); (case hg => rfl); (case hr => exact z11); intro gb254 hg w7 hbox hb; have BK254 := Aside0.mk (hbox); have GW254 := Aside0.mk ((z18 : w.heap.size ≤ gb254)); have GE254 := Aside0.mk ((z18 : w.heap.size ≤ gb254)); replace HB := Aside0.mk (below_step bB hb); clear hb hbox hg) | ((with_reducible refine gate_callee (f := 37) rfl ?_); refine goesL_ (some 9) rfl rfl Tryd.func37 (by kernel_rfl) rfl #[.string a0] rfl bM ?_; (with_reducible refine (spec_l4Words.calls k a0 t255 _ A5.out).mono ?_); rintro e w8 ⟨v256, rfl, ho0, hb⟩; refine ⟨_, rfl, ?_⟩; have HO257 := Aside0.mk (Kd.R_lower ho0 (below_size (bG GE254))); replace BK254 := Aside0.mk (blk_below (g := gb254) (o := .cells #[.int .i64 0, .slice none 0 0] 39 (0, 0)) (bL BK254) hb); replace HB := Aside0.mk (below_step (bG GE254) hb); (try clear ho0); obtain ⟨Ao9, co9, eo9⟩ := Kd.R_slice HO257.out; subst eo9; have hcz10_0 : w8.cell? ⟨gb254, 0, none⟩ = some (.int .i64 0) := (blk_cell BK254.out 0).trans rfl; have hcz10_1 : w8.cell? ⟨gb254, 1, none⟩ = some (.slice none 0 0) := (blk_cell BK254.out 1).trans rfl; have hfz10_0 := blk_frozen BK254.out 0; have hfz10_1 := blk_frozen BK254.out 1))
   refine bodyPost_ret (results_cell_row rfl _ _ gb254 39 #[.int .i64 2, .slice none 0 0] (0, 0) _ rfl (z15 BK254.out) Tryd.underlying39 rfl (by kernel_rfl)) rfl ?_
   exact ⟨_, bE, z4, bG GE254⟩
  ·rw [if_neg c6] at H
   have c6b0 : decide (400 < (t255.length : Int)) = false := decide_eq_false c6
   have c6b1 : decide (400 < t255.length) = false := decide_eq_false (by omega)
   clear c6
   simp only [Option.some.injEq, Prod.mk.injEq] at H
   obtain ⟨rfl, rfl⟩ := H
   go_enter Tryd.func17, Tryd.ntmps17
   go_wp2_with (first | ((with_reducible refine gate_dst (N := 2) rfl ?_); refine box_event ?hg (N := 2) ?hd (cs := #[.int .i64 0, .slice none 0 0]) (t := 39) ?hr ?_; (case hd => rfl); (case hg => rfl); (case hr => exact z11); intro gb254 hg w11 hbox hb; have BK254 := Aside0.mk (hbox); have GW254 := Aside0.mk ((z18 : w.heap.size ≤ gb254)); have GE254 := Aside0.mk ((z18 : w.heap.size ≤ gb254)); replace HB := Aside0.mk (below_step bB hb); clear hb hbox hg) | ((with_reducible refine gate_callee (f := 37) rfl ?_); refine goesL_ (some 9) rfl rfl Tryd.func37 (by kernel_rfl) rfl #[.string a0] rfl bM ?_; (with_reducible refine (spec_l4Words.calls k a0 t255 _ A5.out).mono ?_); rintro e w12 ⟨v256, rfl, ho0, hb⟩; refine ⟨_, rfl, ?_⟩; have HO257 := Aside0.mk (Kd.R_lower ho0 (below_size (bG GE254))); replace BK254 := Aside0.mk (blk_below (g := gb254) (o := .cells #[.int .i64 0, .slice none 0 0] 39 (0, 0)) (bL BK254) hb); replace HB := Aside0.mk (below_step (bG GE254) hb); (try clear ho0); obtain ⟨Ao13, co13, eo13⟩ := Kd.R_slice HO257.out; subst eo13; have hcz14_0 : w12.cell? ⟨gb254, 0, none⟩ = some (.int .i64 0) := (blk_cell BK254.out 0).trans rfl; have hcz14_1 : w12.cell? ⟨gb254, 1, none⟩ = some (.slice none 0 0) := (blk_cell BK254.out 1).trans rfl; have hfz14_0 := blk_frozen BK254.out 0; have hfz14_1 := blk_frozen BK254.out 1))
   refine bodyPost_ret (results_cell_row rfl _ _ gb254 39 #[.int .i64 0, .slice Ao13 t255.length co13] (0, 0) _ rfl (z22 BK254.out) Tryd.underlying39 rfl (by kernel_rfl)) rfl ?_
   exact ⟨_, bE, by (with_reducible repeat (first | apply Kd.R_alloc | apply Kd.R_drewN | apply Kd.R_drew)); exact Kd.R_mono (Kd.R_far (p := ⟨gb254, 1, none⟩) (Kd.R_far (p := ⟨gb254, 0, none⟩) (Kd.R_types HO257.out BK254.out (by decide)) (fun _ hk => hk.2) (.int .i64 0)) (fun _ hk => hk.2) (.slice Ao13 t255.length co13)) (fun _ hk => trivial), bG GE254⟩
def impl_baseText.val (a b c : Int) : Int := Go.bits .or .i64 (Go.bits .or .i64 (wrap64 (a * 65536)) (wrap64 (b * 256))) c
def impl_baseText.dg (v : Int) : Int := bt (⟨#[65, 66, 67, 68, 69, 70, 71, 72, 73, 74, 75, 76, 77, 78, 79, 80, 81, 82, 83, 84, 85, 86, 87, 88, 89, 90, 97, 98, 99, 100, 101, 102, 103, 104, 105, 106, 107, 108, 109, 110, 111, 112, 113, 114, 115, 116, 117, 118, 119, 120, 121, 122, 48, 49, 50, 51, 52, 53, 54, 55, 56, 57, 43, 47]⟩ : ByteArray) v
def impl_baseText.q : List Int → List Int
  | [] => []
  | [a] => [impl_baseText.dg (a / 4 % 64), impl_baseText.dg (a % 4 * 16), 61, 61]
  | [a, b] => [impl_baseText.dg (a / 4 % 64), impl_baseText.dg (a % 4 * 16 + b / 16), impl_baseText.dg (b % 16 * 4), 61]
  | a :: b :: c :: rest => impl_baseText.dg (a / 4 % 64) :: impl_baseText.dg (a % 4 * 16 + b / 16) :: impl_baseText.dg (b % 16 * 4 + c / 64) :: impl_baseText.dg (c % 64) :: impl_baseText.q rest
def impl_baseText.f (l0 : List Int) : Option ByteArray := if l0.length ≤ 1000000 ∧ l0.all (fun x => decide (0 ≤ x ∧ x ≤ 255)) = true then some (strOfNums (impl_baseText.q l0)) else none
theorem impl_baseText.wraps (n : Int) (h0 : 0 ≤ n) (h1 : n < 2 ^ 24) : IntKind.i64.wrap n = n := by
  have : (2 : Int) ^ 24 = 16777216 := by decide
  rw [IntKind.wrap_i64]
  omega
theorem impl_baseText.val_eq (a b c : Int) (ha : 0 ≤ a ∧ a ≤ 255) (hb : 0 ≤ b ∧ b ≤ 255) (hc : 0 ≤ c ∧ c ≤ 255) : Go.bits .or .i64 (Go.bits .or .i64 (wrap64 (wrap64 a * 65536)) (wrap64 (wrap64 b * 256))) (wrap64 c) = a * 65536 + b * 256 + c := by
  have w : ∀ n : Int, 0 ≤ n → n ≤ 16777215 → wrap64 n = n := fun n h1 h2 => by unfold wrap64; omega
  rw [w a (by omega) (by omega), w b (by omega) (by omega), w c (by omega) (by omega), w (a * 65536) (by omega) (by omega), w (b * 256) (by omega) (by omega)]
  have p24 : (2 : Int) ^ 24 = 16777216 := by decide
  have p16 : (2 : Int) ^ 16 = 65536 := by decide
  have p8 : (2 : Int) ^ 8 = 256 := by decide
  rw [bits_join .i64 24 (by decide) impl_baseText.wraps 16 (a * 65536) (b * 256) (by omega) (by omega) (by omega) (by omega) (by omega) (by omega), bits_join .i64 24 (by decide) impl_baseText.wraps 8 (a * 65536 + b * 256) c (by omega) (by omega) (by omega) (by omega) (by omega) (by omega)]
theorem impl_baseText.val_eq2 (a b c : Int) (ha : 0 ≤ a ∧ a ≤ 255) (hb : 0 ≤ b ∧ b ≤ 255) (hc : 0 ≤ c ∧ c ≤ 255) : Go.bits .or .i64 (Go.bits .or .i64 (a * 65536) (b * 256)) c = a * 65536 + b * 256 + c := by
  have w : ∀ n : Int, 0 ≤ n → n ≤ 16777215 → wrap64 n = n := fun n h1 h2 => by unfold wrap64; omega
  have := impl_baseText.val_eq a b c ha hb hc
  rwa [w a (by omega) (by omega), w b (by omega) (by omega), w c (by omega) (by omega), w (a * 65536) (by omega) (by omega), w (b * 256) (by omega) (by omega)] at this
theorem impl_baseText.and63 (x : Int) (h : 0 ≤ x ∧ x ≤ 16777215) : Go.bits .and .i64 x 63 = x % 64 := by
  have p24 : (2 : Int) ^ 24 = 16777216 := by decide
  have := bits_mask .i64 24 (by decide) impl_baseText.wraps 6 (by decide) x h.1 (by omega)
  simpa using this
def impl_baseText.dk (n : Nat) (V : Int) (k : Nat) : Int := if n < k then 61 else impl_baseText.dg (V / 2 ^ (18 - 6 * k) % 64)
def impl_baseText.four (n : Nat) (V : Int) : List Int := [impl_baseText.dk n V 0, impl_baseText.dk n V 1, impl_baseText.dk n V 2, impl_baseText.dk n V 3]
theorem impl_baseText.four_take (n : Nat) (V : Int) (j : Nat) (h : j < 4) : (impl_baseText.four n V).take (j + 1) = (impl_baseText.four n V).take j ++ [impl_baseText.dk n V j] := by
  match j, h with
  | 0, _ => rfl
  | 1, _ => rfl
  | 2, _ => rfl
  | 3, _ => rfl
theorem impl_baseText.bytes3 (l cs : List Int) (kk : Nat) (g0 g1 g2 : Int) (hall : l.all (fun x => decide (0 ≤ x ∧ x ≤ 255)) = true) (hc : cs = (l.drop kk).take 3)
    (hval : (cs = [g0] ∧ g1 = 0 ∧ g2 = 0) ∨ (cs = [g0, g1] ∧ g2 = 0) ∨ cs = [g0, g1, g2]) : (0 ≤ g0 ∧ g0 ≤ 255) ∧ (0 ≤ g1 ∧ g1 ≤ 255) ∧ (0 ≤ g2 ∧ g2 ≤ 255) := by
  have hm : ∀ x, x ∈ cs → 0 ≤ x ∧ x ≤ 255 := by
    intro x hx
    rw [hc] at hx
    have h1 := List.mem_of_mem_drop (List.mem_of_mem_take hx)
    exact of_decide_eq_true (List.all_eq_true.1 hall x h1)
  rcases hval with ⟨h, rfl, rfl⟩ | ⟨h, rfl⟩ | h
  · exact ⟨hm g0 (by rw [h]; simp), by omega, by omega⟩
  · exact ⟨hm g0 (by rw [h]; simp), hm g1 (by rw [h]; simp), by omega⟩
  · exact ⟨hm g0 (by rw [h]; simp), hm g1 (by rw [h]; simp), hm g2 (by rw [h]; simp)⟩
theorem impl_baseText.q_step (l cs : List Int) (kk : Nat) (g0 g1 g2 : Int) (hall : l.all (fun x => decide (0 ≤ x ∧ x ≤ 255)) = true) (hc : cs = (l.drop kk).take 3)
    (hval : (cs = [g0] ∧ g1 = 0 ∧ g2 = 0) ∨ (cs = [g0, g1] ∧ g2 = 0) ∨ cs = [g0, g1, g2]) : impl_baseText.q (l.drop kk) = impl_baseText.four cs.length (g0 * 65536 + g1 * 256 + g2) ++ impl_baseText.q (l.drop (kk + 3)) := by
  obtain ⟨h0, h1, h2⟩ := impl_baseText.bytes3 l cs kk g0 g1 g2 hall hc hval
  rw [show l.drop (kk + 3) = (l.drop kk).drop 3 by rw [List.drop_drop]]
  generalize l.drop kk = m at hc
  have p0 : (2 : Int) ^ (18 - 6 * 0) = 262144 := by decide
  have p1 : (2 : Int) ^ (18 - 6 * 1) = 4096 := by decide
  have p2 : (2 : Int) ^ (18 - 6 * 2) = 64 := by decide
  have p3 : (2 : Int) ^ (18 - 6 * 3) = 1 := by decide
  match m, hc with
  | [], hc =>
    simp only [List.take_nil] at hc
    rcases hval with ⟨h, _⟩ | ⟨h, _⟩ | h <;> rw [hc] at h <;> cases h
  | [a], hc =>
    have hc' : cs = [a] := by rw [hc]; rfl
    rcases hval with ⟨h, rfl, rfl⟩ | ⟨h, _⟩ | h <;> rw [hc'] at h <;> cases h
    rw [hc']
    show [impl_baseText.dg (g0 / 4 % 64), impl_baseText.dg (g0 % 4 * 16), 61, 61] = [impl_baseText.dk 1 _ 0, impl_baseText.dk 1 _ 1, impl_baseText.dk 1 _ 2, impl_baseText.dk 1 _ 3] ++ impl_baseText.q []
    simp only [impl_baseText.dk, p0, p1, p2, p3, impl_baseText.q, List.append_nil]
    rw [if_neg (by omega), if_neg (by omega), if_pos (by omega), if_pos (by omega), show (g0 * 65536 + 0 * 256 + 0) / 262144 % 64 = g0 / 4 % 64 by omega, show (g0 * 65536 + 0 * 256 + 0) / 4096 % 64 = g0 % 4 * 16 by omega]
  | [a, b], hc =>
    have hc' : cs = [a, b] := by rw [hc]; rfl
    rcases hval with ⟨h, _⟩ | ⟨h, rfl⟩ | h <;> rw [hc'] at h <;> cases h
    rw [hc']
    show [impl_baseText.dg (g0 / 4 % 64), impl_baseText.dg (g0 % 4 * 16 + g1 / 16), impl_baseText.dg (g1 % 16 * 4), 61] = [impl_baseText.dk 2 _ 0, impl_baseText.dk 2 _ 1, impl_baseText.dk 2 _ 2, impl_baseText.dk 2 _ 3] ++ impl_baseText.q []
    simp only [impl_baseText.dk, p0, p1, p2, p3, impl_baseText.q, List.append_nil]
    rw [if_neg (by omega), if_neg (by omega), if_neg (by omega), if_pos (by omega), show (g0 * 65536 + g1 * 256 + 0) / 262144 % 64 = g0 / 4 % 64 by omega, show (g0 * 65536 + g1 * 256 + 0) / 4096 % 64 = g0 % 4 * 16 + g1 / 16 by omega, show (g0 * 65536 + g1 * 256 + 0) / 64 % 64 = g1 % 16 * 4 by omega]
  | a :: b :: c :: rest, hc =>
    have hc' : cs = [a, b, c] := by rw [hc]; rfl
    rcases hval with ⟨h, _⟩ | ⟨h, _⟩ | h <;> rw [hc'] at h <;> cases h
    rw [hc']
    show impl_baseText.dg (g0 / 4 % 64) :: impl_baseText.dg (g0 % 4 * 16 + g1 / 16) :: impl_baseText.dg (g1 % 16 * 4 + g2 / 64) :: impl_baseText.dg (g2 % 64) :: impl_baseText.q rest = [impl_baseText.dk 3 _ 0, impl_baseText.dk 3 _ 1, impl_baseText.dk 3 _ 2, impl_baseText.dk 3 _ 3] ++ impl_baseText.q rest
    simp only [impl_baseText.dk, p0, p1, p2, p3]
    rw [if_neg (by omega), if_neg (by omega), if_neg (by omega), if_neg (by omega), show (g0 * 65536 + g1 * 256 + g2) / 262144 % 64 = g0 / 4 % 64 by omega, show (g0 * 65536 + g1 * 256 + g2) / 4096 % 64 = g0 % 4 * 16 + g1 / 16 by omega, show (g0 * 65536 + g1 * 256 + g2) / 64 % 64 = g1 % 16 * 4 + g2 / 64 by omega, show (g0 * 65536 + g1 * 256 + g2) / 1 % 64 = g2 % 64 by omega]
    rfl
set_option maxHeartbeats 4000000 in
set_option maxRecDepth 100000 in
theorem impl_baseText.calls (A0 : Option Addr) (c0 : Nat) (l0 : List Int) (r : ByteArray) (w : World) (hr0 : Kd.C (Kd.int .u8) w A0 l0.length l0) (hc0 : l0.length ≤ c0) (h : impl_baseText.f l0 = some r) :
    Calls Tryd.prog 30 #[.slice A0 l0.length c0] w fun e w' => e = .returned (.string r) ∧ Below w.heap.size w w' := by
  unfold impl_baseText.f at h
  by_cases hf : l0.length ≤ 1000000 ∧ l0.all (fun x => decide (0 ≤ x ∧ x ≤ 255)) = true
  · rw [if_pos hf] at h
    cases h
    have HR0 := Aside0.mk hr0
    have HF := Aside0.mk hf
    have hlen := hf.1
    clear hr0 hf
    have HB := Aside0.mk (Below.refl w.heap.size w)
    go_enter Tryd.func30, Tryd.ntmps30
    go_wp2_with (first | ((with_reducible refine gate_dst (N := 9) rfl ?_); (try (refine gate_guard (by rfl) ?_; dsimp only)); refine Kd.R_lit (Kd.int .u8) _ 5 ?hg (N := 9) ?hd (xs := ([] : List Int)) (inner := []) (ok := fun _ => True) (okp := fun _ => True) ?hr ?hp (fun _ hk => hk) trivial (Below.refl _ _) (Nat.le_refl _) (by simp) ?_; (case hd => rfl); (case hg => rfl); (case hr => exact z11); (case hp => exact (Reps.none _ _)); intro v111 w2 ho3 hb hg_ hnew_; clear hg_ hnew_; (try simp only [Int.reduceToNat] at ho3); have n0_ := Aside0.mk (Kd.R_lower ho3 (below_size z57)); have n1_ := Aside0.mk (below_step z57 hb); clear HB; have HO112 := n0_; have HB := n1_; clear n0_ n1_; clear hb ho3))
    go_loopg [3, 4] (l0.length + 3) (fun gg v3 v4 wr => ∃ (kk : Nat) (done : List Int), l0.length + 3 ≤ gg + kk ∧ kk ≤ l0.length + 2 ∧ v4 = .int .i64 kk ∧ done.length ≤ 2 * kk + 8 ∧ Aside0 (impl_baseText.q l0 = done ++ impl_baseText.q (l0.drop kk)) ∧ Aside0 (Kd.R (Kd.int .u8) 5 wr w.heap.size (fun _ => True) v3 done) ∧ Aside0 (Below w.heap.size w wr))
    case atStart => exact ⟨0, [], by omega, by omega, rfl, by simp, ⟨by simp⟩, ⟨by (with_reducible repeat (first | apply Kd.R_alloc | apply Kd.R_drewN | apply Kd.R_drew)); exact HO112.out⟩, ⟨z57⟩⟩
    case round =>
      obtain ⟨kk, done, hgg, hkk, rfl, hdl, HX, HO, HB⟩ := hrel
      by_cases hlt : kk < l0.length
      · have hltz : (kk : Int) < (l0.length : Int) := by omega
        go_wp2_with (fail "stop")
        obtain ⟨ad, rfl, hcell⟩ := Kd.at_int (Kd.C_below HR0.out HB.out) (kk : Int) (by omega) (by omega)
        have h0k : (0 : Int) ≤ (kk : Int) := by omega
        have hklz : (kk : Int) ≤ (l0.length : Int) := by omega
        have hlcz : (l0.length : Int) ≤ (c0 : Int) := by omega
        have hne : ¬ c0 = kk := by omega
        go_still_tail 4, (by kernel_rfl)
        change wpList _ _ _ _ _ (World.drew _)
        obtain ⟨cs, hcs⟩ : ∃ cs : List Int, cs = (l0.drop kk).take 3 := ⟨_, rfl⟩
        have hcl : cs.length = Nat.min (l0.length - kk) 3 := by rw [hcs, List.length_take, List.length_drop]; exact Nat.min_comm _ _
        have hcl3 : cs.length ≤ 3 := by rw [hcl]; exact Nat.min_le_right _ _
        have hcp : 0 < cs.length := by rw [hcl]; exact Nat.lt_min.2 ⟨by omega, by omega⟩
        have HC := Aside0.mk hcs
        clear hcs
        have HSRC : Aside0 (∀ j v, (cs.map fun x => Value.int .u8 x)[j]? = some v → (wr.alloc (.cells #[.int .u8 0, .int .u8 0, .int .u8 0] 68 (0, 0))).drew.cell? ((ad.add kk).add j) = some v) := by
          refine ⟨fun j v hj => ?_⟩
          rw [List.getElem?_map, HC.out] at hj
          obtain ⟨x, hx, rfl⟩ := Option.map_eq_some_iff.1 hj
          have hj3 : j < 3 := by
            rcases Nat.lt_or_ge j 3 with h' | h'
            · exact h'
            · rw [List.getElem?_eq_none (by rw [List.length_take]; omega)] at hx
              cases hx
          rw [List.getElem?_take, if_pos hj3, List.getElem?_drop] at hx
          have hkj : kk + j < l0.length := (List.getElem?_eq_some_iff.1 hx).1
          obtain ⟨ad', had, hcell'⟩ := Kd.at_int (Kd.C_below HR0.out HB.out) ((kk + j : Nat) : Int) (by omega) (by omega)
          cases had
          have hrd : rd l0 ((kk + j : Nat) : Int) = x := by rw [rd, List.getD_eq_getElem?_getD, Int.toNat_natCast, hx]; rfl
          rw [hrd] at hcell'
          rw [add_add]
          exact pw_cell_below (Below.drew (below_alloc (Below.refl _ _) _)) hcell'
        refine wpList_copy_splice rfl (.tmp 17) (.tmp 20) 22 22 rfl 5 Tryd.underlying22 (by kernel_rfl) (some ⟨wr.heap.size, 0, none⟩) (some (ad.add kk)) 3 3 (l0.length - kk) (c0 - kk) rfl rfl wr.heap.size 0 [.int .u8 0, .int .u8 0, .int .u8 0] 68 (by show (World.alloc _ _).heap[wr.heap.size]? = _; exact heap_alloc_new _ _) (cs.map fun x => Value.int .u8 x) (by rw [List.length_map, hcl]) (fun _ => ⟨rfl, _, rfl, HSRC.out⟩) (by rw [List.length_map]; simp; omega) (by intro v hv; obtain ⟨x, _, rfl⟩ := List.mem_map.1 hv; rfl) wr.heap.size wr (by apply Below.drew; apply below_alloc; exact Below.refl _ _) (Nat.le_refl _) ?_
        intro w1 hg hb1
        obtain ⟨g0, g1, g2, hcur, hval⟩ : ∃ g0 g1 g2 : Int, splice [Value.int .u8 0, .int .u8 0, .int .u8 0] 0 (cs.map fun x => Value.int .u8 x) = [Value.int .u8 g0, .int .u8 g1, .int .u8 g2] ∧ ((cs = [g0] ∧ g1 = 0 ∧ g2 = 0) ∨ (cs = [g0, g1] ∧ g2 = 0) ∨ cs = [g0, g1, g2]) := by
          match cs, hcp, hcl3 with
          | [a], _, _ => exact ⟨a, 0, 0, rfl, .inl ⟨rfl, rfl, rfl⟩⟩
          | [a, b], _, _ => exact ⟨a, b, 0, rfl, .inr (.inl ⟨rfl, rfl⟩)⟩
          | [a, b, c], _, _ => exact ⟨a, b, c, rfl, .inr (.inr rfl)⟩
        have hg2 : w1.heap[wr.heap.size]? = some (.cells #[.int .u8 g0, .int .u8 g1, .int .u8 g2] 68 (0, 0)) := by
          have h1 : w1.heap[wr.heap.size]? = _ := hg
          rw [hcur] at h1
          exact h1
        clear hg HSRC hcur
        have k0 : w1.cell? ⟨wr.heap.size, 0, none⟩ = some (.int .u8 g0) := by rw [Lib.cell_of_heap hg2]; rfl
        have k1 : w1.cell? ⟨wr.heap.size, 1, none⟩ = some (.int .u8 g1) := by rw [Lib.cell_of_heap hg2]; rfl
        have k2 : w1.cell? ⟨wr.heap.size, 2, none⟩ = some (.int .u8 g2) := by rw [Lib.cell_of_heap hg2]; rfl
        have HO1 := Aside0.mk (Kd.R_below HO.out hb1)
        have HB1 := Aside0.mk (below_step HB.out hb1)
        have HV := Aside0.mk hval
        have HL := Aside0.mk hcl
        clear hg2 hb1 hval hcl HO HB
        obtain ⟨hg0, hg1, hg2⟩ := impl_baseText.bytes3 l0 cs kk g0 g1 g2 HF.out.2 HC.out HV.out
        have hval := impl_baseText.val_eq g0 g1 g2 hg0 hg1 hg2
        have hval2 := impl_baseText.val_eq2 g0 g1 g2 hg0 hg1 hg2
        go_wp2
        (try simp only [hval2])
        (try simp only [hval])
        generalize hV : g0 * 65536 + g1 * 256 + g2 = V
        go_loopg [3, 35] 5 (fun gg v3 v35 w' => ∃ j : Nat, j ≤ 4 ∧ 4 - j < gg ∧ v35 = .int .i64 j ∧ Aside0 (Kd.R (Kd.int .u8) 5 w' w.heap.size (fun _ => True) v3 (done ++ (impl_baseText.four cs.length V).take j)) ∧ Aside0 (Below w.heap.size w w'))
        case atStart => exact ⟨0, by omega, by omega, rfl, ⟨by simpa using HO1.out⟩, HB1⟩
        case round =>
          obtain ⟨j, hj4, hjg, rfl, HO, HB⟩ := hrel
          by_cases hj : j < 4
          · have hjz : (j : Int) < 4 := by omega
            have hfl : (done ++ (impl_baseText.four cs.length V).take j).length ≤ 3000000 := by rw [List.length_append, List.length_take]; show _ + min j 4 ≤ _; omega
            by_cases hk : (j : Int) > (cs.length : Int)
            · have hdk : impl_baseText.dk cs.length V j = 61 := by unfold impl_baseText.dk; rw [if_pos (by omega)]
              go_wp2_with ((with_reducible refine gate_builtin (b := .append) (xs := #[.tmp 41, .tmp 42]) rfl ?_); (try (refine gate_guard (by rfl) ?_; dsimp only)); at_builtin; refine Kd.R_append (Kd.int .u8) (w0 := w) w.heap.size rfl (.tmp 41) (.tmp 42) 22 5 (.int .u8 0) 1 rfl Tryd.underlying22 info5 rfl (by decide) (by omega) u3 (done ++ (impl_baseText.four cs.length V).take j) 61 [.int .u8 61] (fun _ => True) (fun _ => False) rfl rfl ?aP (fun _ hk => hk.elim) ?aF ?aO ?aB ?aS ?aL ?_; (case aP => exact rfl); (case aB => exact HB.out); (case aF => exact (fun _ _ => trivial)); (case aO => exact HO.out); (case aS => exact (below_size HB.out)); (case aL => omega); intro v117 w24 ho hb hg hat; have HO2 := Aside0.mk ho; have HB2 := Aside0.mk hb; clear ho hb hg hat)
              go_roundg (4 - j)
              case measure => omega
              case rel => exact ⟨j + 1, by omega, by omega, by go_num, ⟨by rw [impl_baseText.four_take _ _ _ hj, ← List.append_assoc, hdk]; exact HO2.out⟩, HB2⟩
            · have hkz : (j : Int) ≤ (cs.length : Int) := by omega
              have hV0 : 0 ≤ V ∧ V ≤ 16777215 := by omega
              obtain rfl | rfl | rfl | rfl : j = 0 ∨ j = 1 ∨ j = 2 ∨ j = 3 := by omega
              · have hx : Go.bits .and .i64 (V / 262144) 63 = V / 262144 % 64 := impl_baseText.and63 _ (by omega)
                obtain ⟨x, hxe⟩ : ∃ x : Int, x = V / 262144 % 64 := ⟨_, rfl⟩
                have hx0 : 0 ≤ x := by omega
                have hx1 : x < 64 := by omega
                have HDK : Aside0 (impl_baseText.dk cs.length V 0 = bt (⟨#[65, 66, 67, 68, 69, 70, 71, 72, 73, 74, 75, 76, 77, 78, 79, 80, 81, 82, 83, 84, 85, 86, 87, 88, 89, 90, 97, 98, 99, 100, 101, 102, 103, 104, 105, 106, 107, 108, 109, 110, 111, 112, 113, 114, 115, 116, 117, 118, 119, 120, 121, 122, 48, 49, 50, 51, 52, 53, 54, 55, 56, 57, 43, 47]⟩ : ByteArray) x) := ⟨by show _ = impl_baseText.dg x; unfold impl_baseText.dk; rw [if_neg (by omega), hxe, show (2 : Int) ^ (18 - 6 * 0) = 262144 by decide]⟩
                rw [← hxe] at hx
                clear hxe
                have hxb := bt_at (⟨#[65, 66, 67, 68, 69, 70, 71, 72, 73, 74, 75, 76, 77, 78, 79, 80, 81, 82, 83, 84, 85, 86, 87, 88, 89, 90, 97, 98, 99, 100, 101, 102, 103, 104, 105, 106, 107, 108, 109, 110, 111, 112, 113, 114, 115, 116, 117, 118, 119, 120, 121, 122, 48, 49, 50, 51, 52, 53, 54, 55, 56, 57, 43, 47]⟩ : ByteArray) x
                go_wp2_with ((with_reducible refine gate_builtin (b := .append) (xs := #[.tmp 44, .tmp 52]) rfl ?_); (try (refine gate_guard (by rfl) ?_; dsimp only)); at_builtin; refine Kd.R_append (Kd.int .u8) (w0 := w) w.heap.size rfl (.tmp 44) (.tmp 52) 22 5 (.int .u8 0) 1 rfl Tryd.underlying22 info5 rfl (by decide) (by omega) u3 (done ++ (impl_baseText.four cs.length V).take 0) (bt (⟨#[65, 66, 67, 68, 69, 70, 71, 72, 73, 74, 75, 76, 77, 78, 79, 80, 81, 82, 83, 84, 85, 86, 87, 88, 89, 90, 97, 98, 99, 100, 101, 102, 103, 104, 105, 106, 107, 108, 109, 110, 111, 112, 113, 114, 115, 116, 117, 118, 119, 120, 121, 122, 48, 49, 50, 51, 52, 53, 54, 55, 56, 57, 43, 47]⟩ : ByteArray) x) [.int .u8 (bt (⟨#[65, 66, 67, 68, 69, 70, 71, 72, 73, 74, 75, 76, 77, 78, 79, 80, 81, 82, 83, 84, 85, 86, 87, 88, 89, 90, 97, 98, 99, 100, 101, 102, 103, 104, 105, 106, 107, 108, 109, 110, 111, 112, 113, 114, 115, 116, 117, 118, 119, 120, 121, 122, 48, 49, 50, 51, 52, 53, 54, 55, 56, 57, 43, 47]⟩ : ByteArray) x)] (fun _ => True) (fun _ => False) rfl rfl ?aP (fun _ hk => hk.elim) ?aF ?aO ?aB ?aS ?aL ?_; (case aP => exact rfl); (case aB => exact HB.out); (case aF => exact (fun _ _ => trivial)); (case aO => exact HO.out); (case aS => exact (below_size HB.out)); (case aL => omega); intro v117 w24 ho hb hg hat; have HO2 := Aside0.mk ho; have HB2 := Aside0.mk hb; clear ho hb hg hat)
                go_roundg (4 - 0)
                case measure => omega
                case rel => exact ⟨0 + 1, by omega, by omega, by go_num, ⟨z75 HO2.out⟩, HB2⟩
              · have hx : Go.bits .and .i64 (V / 4096) 63 = V / 4096 % 64 := impl_baseText.and63 _ (by omega)
                obtain ⟨x, hxe⟩ : ∃ x : Int, x = V / 4096 % 64 := ⟨_, rfl⟩
                have hx0 : 0 ≤ x := by omega
                have hx1 : x < 64 := by omega
                have HDK : Aside0 (impl_baseText.dk cs.length V 1 = bt (⟨#[65, 66, 67, 68, 69, 70, 71, 72, 73, 74, 75, 76, 77, 78, 79, 80, 81, 82, 83, 84, 85, 86, 87, 88, 89, 90, 97, 98, 99, 100, 101, 102, 103, 104, 105, 106, 107, 108, 109, 110, 111, 112, 113, 114, 115, 116, 117, 118, 119, 120, 121, 122, 48, 49, 50, 51, 52, 53, 54, 55, 56, 57, 43, 47]⟩ : ByteArray) x) := ⟨by show _ = impl_baseText.dg x; unfold impl_baseText.dk; rw [if_neg (by omega), hxe, show (2 : Int) ^ (18 - 6 * 1) = 4096 by decide]⟩
                rw [← hxe] at hx
                clear hxe
                have hxb := bt_at (⟨#[65, 66, 67, 68, 69, 70, 71, 72, 73, 74, 75, 76, 77, 78, 79, 80, 81, 82, 83, 84, 85, 86, 87, 88, 89, 90, 97, 98, 99, 100, 101, 102, 103, 104, 105, 106, 107, 108, 109, 110, 111, 112, 113, 114, 115, 116, 117, 118, 119, 120, 121, 122, 48, 49, 50, 51, 52, 53, 54, 55, 56, 57, 43, 47]⟩ : ByteArray) x
                go_wp2_with ((with_reducible refine gate_builtin (b := .append) (xs := #[.tmp 44, .tmp 52]) rfl ?_); (try (refine gate_guard (by rfl) ?_; dsimp only)); at_builtin; refine Kd.R_append (Kd.int .u8) (w0 := w) w.heap.size rfl (.tmp 44) (.tmp 52) 22 5 (.int .u8 0) 1 rfl Tryd.underlying22 info5 rfl (by decide) (by omega) u3 (done ++ (impl_baseText.four cs.length V).take 1) (bt (⟨#[65, 66, 67, 68, 69, 70, 71, 72, 73, 74, 75, 76, 77, 78, 79, 80, 81, 82, 83, 84, 85, 86, 87, 88, 89, 90, 97, 98, 99, 100, 101, 102, 103, 104, 105, 106, 107, 108, 109, 110, 111, 112, 113, 114, 115, 116, 117, 118, 119, 120, 121, 122, 48, 49, 50, 51, 52, 53, 54, 55, 56, 57, 43, 47]⟩ : ByteArray) x) [.int .u8 (bt (⟨#[65, 66, 67, 68, 69, 70, 71, 72, 73, 74, 75, 76, 77, 78, 79, 80, 81, 82, 83, 84, 85, 86, 87, 88, 89, 90, 97, 98, 99, 100, 101, 102, 103, 104, 105, 106, 107, 108, 109, 110, 111, 112, 113, 114, 115, 116, 117, 118, 119, 120, 121, 122, 48, 49, 50, 51, 52, 53, 54, 55, 56, 57, 43, 47]⟩ : ByteArray) x)] (fun _ => True) (fun _ => False) rfl rfl ?aP (fun _ hk => hk.elim) ?aF ?aO ?aB ?aS ?aL ?_; (case aP => exact rfl); (case aB => exact HB.out); (case aF => exact (fun _ _ => trivial)); (case aO => exact HO.out); (case aS => exact (below_size HB.out)); (case aL => omega); intro v117 w24 ho hb hg hat; have HO2 := Aside0.mk ho; have HB2 := Aside0.mk hb; clear ho hb hg hat)
                go_roundg (4 - 1)
                case measure => omega
                case rel => exact ⟨1 + 1, by omega, by omega, by go_num, ⟨z75 HO2.out⟩, HB2⟩
              · have hx : Go.bits .and .i64 (V / 64) 63 = V / 64 % 64 := impl_baseText.and63 _ (by omega)
                obtain ⟨x, hxe⟩ : ∃ x : Int, x = V / 64 % 64 := ⟨_, rfl⟩
                have hx0 : 0 ≤ x := by omega
                have hx1 : x < 64 := by omega
                have HDK : Aside0 (impl_baseText.dk cs.length V 2 = bt (⟨#[65, 66, 67, 68, 69, 70, 71, 72, 73, 74, 75, 76, 77, 78, 79, 80, 81, 82, 83, 84, 85, 86, 87, 88, 89, 90, 97, 98, 99, 100, 101, 102, 103, 104, 105, 106, 107, 108, 109, 110, 111, 112, 113, 114, 115, 116, 117, 118, 119, 120, 121, 122, 48, 49, 50, 51, 52, 53, 54, 55, 56, 57, 43, 47]⟩ : ByteArray) x) := ⟨by show _ = impl_baseText.dg x; unfold impl_baseText.dk; rw [if_neg (by omega), hxe, show (2 : Int) ^ (18 - 6 * 2) = 64 by decide]⟩
                rw [← hxe] at hx
                clear hxe
                have hxb := bt_at (⟨#[65, 66, 67, 68, 69, 70, 71, 72, 73, 74, 75, 76, 77, 78, 79, 80, 81, 82, 83, 84, 85, 86, 87, 88, 89, 90, 97, 98, 99, 100, 101, 102, 103, 104, 105, 106, 107, 108, 109, 110, 111, 112, 113, 114, 115, 116, 117, 118, 119, 120, 121, 122, 48, 49, 50, 51, 52, 53, 54, 55, 56, 57, 43, 47]⟩ : ByteArray) x
                go_wp2_with ((with_reducible refine gate_builtin (b := .append) (xs := #[.tmp 44, .tmp 52]) rfl ?_); (try (refine gate_guard (by rfl) ?_; dsimp only)); at_builtin; refine Kd.R_append (Kd.int .u8) (w0 := w) w.heap.size rfl (.tmp 44) (.tmp 52) 22 5 (.int .u8 0) 1 rfl Tryd.underlying22 info5 rfl (by decide) (by omega) u3 (done ++ (impl_baseText.four cs.length V).take 2) (bt (⟨#[65, 66, 67, 68, 69, 70, 71, 72, 73, 74, 75, 76, 77, 78, 79, 80, 81, 82, 83, 84, 85, 86, 87, 88, 89, 90, 97, 98, 99, 100, 101, 102, 103, 104, 105, 106, 107, 108, 109, 110, 111, 112, 113, 114, 115, 116, 117, 118, 119, 120, 121, 122, 48, 49, 50, 51, 52, 53, 54, 55, 56, 57, 43, 47]⟩ : ByteArray) x) [.int .u8 (bt (⟨#[65, 66, 67, 68, 69, 70, 71, 72, 73, 74, 75, 76, 77, 78, 79, 80, 81, 82, 83, 84, 85, 86, 87, 88, 89, 90, 97, 98, 99, 100, 101, 102, 103, 104, 105, 106, 107, 108, 109, 110, 111, 112, 113, 114, 115, 116, 117, 118, 119, 120, 121, 122, 48, 49, 50, 51, 52, 53, 54, 55, 56, 57, 43, 47]⟩ : ByteArray) x)] (fun _ => True) (fun _ => False) rfl rfl ?aP (fun _ hk => hk.elim) ?aF ?aO ?aB ?aS ?aL ?_; (case aP => exact rfl); (case aB => exact HB.out); (case aF => exact (fun _ _ => trivial)); (case aO => exact HO.out); (case aS => exact (below_size HB.out)); (case aL => omega); intro v117 w24 ho hb hg hat; have HO2 := Aside0.mk ho; have HB2 := Aside0.mk hb; clear ho hb hg hat)
                go_roundg (4 - 2)
                case measure => omega
                case rel => exact ⟨2 + 1, by omega, by omega, by go_num, ⟨z75 HO2.out⟩, HB2⟩
              · have hx : Go.bits .and .i64 (V) 63 = V % 64 := impl_baseText.and63 _ (by omega)
                obtain ⟨x, hxe⟩ : ∃ x : Int, x = V % 64 := ⟨_, rfl⟩
                have hx0 : 0 ≤ x := by omega
                have hx1 : x < 64 := by omega
                have HDK : Aside0 (impl_baseText.dk cs.length V 3 = bt (⟨#[65, 66, 67, 68, 69, 70, 71, 72, 73, 74, 75, 76, 77, 78, 79, 80, 81, 82, 83, 84, 85, 86, 87, 88, 89, 90, 97, 98, 99, 100, 101, 102, 103, 104, 105, 106, 107, 108, 109, 110, 111, 112, 113, 114, 115, 116, 117, 118, 119, 120, 121, 122, 48, 49, 50, 51, 52, 53, 54, 55, 56, 57, 43, 47]⟩ : ByteArray) x) := ⟨by show _ = impl_baseText.dg x; unfold impl_baseText.dk; rw [if_neg (by omega), hxe, show (2 : Int) ^ (18 - 6 * 3) = 1 by decide]; simp⟩
                rw [← hxe] at hx
                clear hxe
                have hxb := bt_at (⟨#[65, 66, 67, 68, 69, 70, 71, 72, 73, 74, 75, 76, 77, 78, 79, 80, 81, 82, 83, 84, 85, 86, 87, 88, 89, 90, 97, 98, 99, 100, 101, 102, 103, 104, 105, 106, 107, 108, 109, 110, 111, 112, 113, 114, 115, 116, 117, 118, 119, 120, 121, 122, 48, 49, 50, 51, 52, 53, 54, 55, 56, 57, 43, 47]⟩ : ByteArray) x
                go_wp2_with ((with_reducible refine gate_builtin (b := .append) (xs := #[.tmp 44, .tmp 52]) rfl ?_); (try (refine gate_guard (by rfl) ?_; dsimp only)); at_builtin; refine Kd.R_append (Kd.int .u8) (w0 := w) w.heap.size rfl (.tmp 44) (.tmp 52) 22 5 (.int .u8 0) 1 rfl Tryd.underlying22 info5 rfl (by decide) (by omega) u3 (done ++ (impl_baseText.four cs.length V).take 3) (bt (⟨#[65, 66, 67, 68, 69, 70, 71, 72, 73, 74, 75, 76, 77, 78, 79, 80, 81, 82, 83, 84, 85, 86, 87, 88, 89, 90, 97, 98, 99, 100, 101, 102, 103, 104, 105, 106, 107, 108, 109, 110, 111, 112, 113, 114, 115, 116, 117, 118, 119, 120, 121, 122, 48, 49, 50, 51, 52, 53, 54, 55, 56, 57, 43, 47]⟩ : ByteArray) x) [.int .u8 (bt (⟨#[65, 66, 67, 68, 69, 70, 71, 72, 73, 74, 75, 76, 77, 78, 79, 80, 81, 82, 83, 84, 85, 86, 87, 88, 89, 90, 97, 98, 99, 100, 101, 102, 103, 104, 105, 106, 107, 108, 109, 110, 111, 112, 113, 114, 115, 116, 117, 118, 119, 120, 121, 122, 48, 49, 50, 51, 52, 53, 54, 55, 56, 57, 43, 47]⟩ : ByteArray) x)] (fun _ => True) (fun _ => False) rfl rfl ?aP (fun _ hk => hk.elim) ?aF ?aO ?aB ?aS ?aL ?_; (case aP => exact rfl); (case aB => exact HB.out); (case aF => exact (fun _ _ => trivial)); (case aO => exact HO.out); (case aS => exact (below_size HB.out)); (case aL => omega); intro v117 w24 ho hb hg hat; have HO2 := Aside0.mk ho; have HB2 := Aside0.mk hb; clear ho hb hg hat)
                go_roundg (4 - 3)
                case measure => omega
                case rel => exact ⟨3 + 1, by omega, by omega, by go_num, ⟨z75 HO2.out⟩, HB2⟩
          · have hjz : ¬ ((j : Int) < 4) := by omega
            obtain rfl : j = 4 := by omega
            go_wp2
            go_roundg (l0.length + 3 - (kk + 3))
            case measure => omega
            case rel => exact ⟨kk + 3, done ++ impl_baseText.four cs.length V, by omega, by omega, by go_num, by rw [List.length_append]; show _ + 4 ≤ _; omega, ⟨by rw [HX.out, impl_baseText.q_step l0 cs kk g0 g1 g2 HF.out.2 HC.out HV.out, hV, List.append_assoc]⟩, HO, HB⟩
      · have hltz : ¬ ((kk : Int) < (l0.length : Int)) := by omega
        have hdone : impl_baseText.q l0 = done := by
          have h1 := HX.out
          rw [List.drop_eq_nil_of_le (by omega)] at h1
          simpa [impl_baseText.q] using h1
        have hcv := own_string (P := Tryd.prog) Tryd.underlying22 Tryd.underlying5 Tryd.underlying9 (Kd.own_of_R HO.out)
        subst hdone
        go_wp2
        go_ret
        exact ⟨by first | rfl | simp, HB.out⟩
  · rw [if_neg hf] at h
    cases h
open Go.Shelf in
def strings_TrimRight.sh_lays162_ren : Go.Shelf.Ren := ⟨fun | 162 => 43 | 232 => 53 | 227 => 54 | 234 => 55 | 236 => 56 | 228 => 76 | 271 => 77 | 151 => 78 | 120 => 97 | 197 => 94 | 152 => 98 | 260 => 104 | 137 => 44 | 119 => 105 | 224 => 106 | 225 => 107 | 217 => 57 | 266 => 79 | n => n, fun | 9 => 9 | 4 => 4 | 3 => 3 | 5 => 5 | 117 => 80 | 116 => 79 | 0 => 0 | 124 => 83 | 21 => 21 | 105 => 98 | 46 => 66 | 119 => 116 | 139 => 119 | 138 => 118 | n => n, fun | 3 => 1 | 4 => 2 | n => n⟩
open Go.Shelf in
theorem strings_TrimRight.sh_lays162 : Go.Proofs.Lays.n162 Tryd.prog strings_TrimRight.sh_lays162_ren := {
  mixed := by kernel_rfl
  f119 := Tryd.func105.trans (congrArg some (by kernel_rfl))
  f120 := Tryd.func97.trans (congrArg some (by kernel_rfl))
  f137 := Tryd.func44.trans (congrArg some (by kernel_rfl))
  f151 := Tryd.func78.trans (congrArg some (by kernel_rfl))
  f152 := Tryd.func98.trans (congrArg some (by kernel_rfl))
  f162 := Tryd.func43.trans (congrArg some (by kernel_rfl))
  f197 := Tryd.func94.trans (congrArg some (by kernel_rfl))
  f217 := Tryd.func57.trans (congrArg some (by kernel_rfl))
  f224 := Tryd.func106.trans (congrArg some (by kernel_rfl))
  f225 := Tryd.func107.trans (congrArg some (by kernel_rfl))
  f227 := Tryd.func54.trans (congrArg some (by kernel_rfl))
  f228 := Tryd.func76.trans (congrArg some (by kernel_rfl))
  f232 := Tryd.func53.trans (congrArg some (by kernel_rfl))
  f234 := Tryd.func55.trans (congrArg some (by kernel_rfl))
  f236 := Tryd.func56.trans (congrArg some (by kernel_rfl))
  f260 := Tryd.func104.trans (congrArg some (by kernel_rfl))
  f266 := Tryd.func79.trans (congrArg some (by kernel_rfl))
  f271 := Tryd.func77.trans (congrArg some (by kernel_rfl))
  t0 := Tryd.underlying0
  a0 := Tryd.isAgg0
  z0 := Tryd.sizeOf0
  v0 := Tryd.zeroValue0
  t3 := Tryd.underlying3
  a3 := Tryd.isAgg3
  z3 := Tryd.sizeOf3
  v3 := Tryd.zeroValue3
  t4 := Tryd.underlying4
  a4 := Tryd.isAgg4
  z4 := Tryd.sizeOf4
  v4 := Tryd.zeroValue4
  t5 := Tryd.underlying5
  a5 := Tryd.isAgg5
  z5 := Tryd.sizeOf5
  v5 := Tryd.zeroValue5
  t9 := Tryd.underlying9
  a9 := Tryd.isAgg9
  z9 := Tryd.sizeOf9
  v9 := Tryd.zeroValue9
  t21 := Tryd.underlying21
  a21 := Tryd.isAgg21
  z21 := Tryd.sizeOf21
  v21 := Tryd.zeroValue21
  t46 := Tryd.underlying66
  a46 := Tryd.isAgg66
  z46 := Tryd.sizeOf66
  v46 := Tryd.zeroValue66
  t105 := Tryd.underlying98
  a105 := Tryd.isAgg98
  z105 := Tryd.sizeOf98
  v105 := Tryd.zeroValue98
  t116 := Tryd.underlying79
  a116 := Tryd.isAgg79
  z116 := Tryd.sizeOf79
  t117 := Tryd.underlying80
  a117 := Tryd.isAgg80
  z117 := Tryd.sizeOf80
  v117 := Tryd.zeroValue80
  t119 := Tryd.underlying116
  a119 := Tryd.isAgg116
  z119 := Tryd.sizeOf116
  t124 := Tryd.underlying83
  a124 := Tryd.isAgg83
  z124 := Tryd.sizeOf83
  v124 := Tryd.zeroValue83
  t138 := Tryd.underlying118
  a138 := Tryd.isAgg118
  z138 := Tryd.sizeOf118
  v138 := Tryd.zeroValue118
  t139 := Tryd.underlying119
  a139 := Tryd.isAgg119
  z139 := Tryd.sizeOf119
  v139 := Tryd.zeroValue119
  g3 := by kernel_rfl
  g4 := by kernel_rfl }
open Go.Shelf in
open Go.RowKit in
theorem strings_TrimRight.sh_strings_TrimRight_one (s : ByteArray) (c : UInt8) (hc : c.toNat < 128) (w : World) (hs : s.size ≤ 9223372036854775807) :
    Calls Tryd.prog 43 #[.string s, .string ⟨#[c]⟩] w fun e w' => e = .returned (.string ⟨(Lib.trimRightB s.data.toList c).toArray⟩) ∧ w' = w := Any.strings_TrimRight_one strings_TrimRight.sh_lays162 s c hc w hs
def strings_TrimRight.f (a0 : ByteArray) (a1 : ByteArray) : Option ByteArray := if a1.size = 1 ∧ bt a1 0 < 128 ∧ a0.size ≤ 9223372036854775807 then some ⟨(Lib.trimRightB a0.data.toList (bt a1 0).toNat.toUInt8).toArray⟩ else none
theorem strings_TrimRight.one (a : ByteArray) (h : a.size = 1) : ∃ c : UInt8, a = ⟨#[c]⟩ ∧ bt a 0 = (c.toNat : Int) ∧ (bt a 0).toNat.toUInt8 = c := by
  match a, h with
  | ⟨⟨[c]⟩⟩, _ => exact ⟨c, rfl, rfl, by show ((c.toNat : Int)).toNat.toUInt8 = c; simp⟩
theorem strings_TrimRight.calls (a0 : ByteArray) (a1 : ByteArray) (r : ByteArray) (w : World) (h : strings_TrimRight.f a0 a1 = some r) :
    Calls Tryd.prog 43 #[.string a0, .string a1] w fun e w' => e = .returned (.string r) ∧ Drawn0 w w' := by
  unfold strings_TrimRight.f at h
  by_cases h1 : a1.size = 1 ∧ bt a1 0 < 128 ∧ a0.size ≤ 9223372036854775807
  · rw [if_pos h1] at h
    cases h
    obtain ⟨c, hc, hn, hu⟩ := strings_TrimRight.one a1 h1.1
    have h2 := h1.2.1
    rw [hn] at h2
    rw [hu]
    subst hc
    refine (strings_TrimRight.sh_strings_TrimRight_one a0 c (by omega) w h1.2.2).mono ?_
    rintro e w' ⟨rfl, rfl⟩
    exact ⟨rfl, Drawn0.refl _⟩
  · rw [if_neg h1] at h
    cases h
open Go.Shelf in
def strings_IndexByte.sh_lays137_ren : Go.Shelf.Ren := ⟨fun | 137 => 44 | 217 => 57 | 266 => 79 | n => n, fun | 9 => 9 | 5 => 5 | 3 => 3 | n => n, fun | n => n⟩
open Go.Shelf in
theorem strings_IndexByte.sh_lays137 : Go.Proofs.Lays.n137 Tryd.prog strings_IndexByte.sh_lays137_ren := {
  mixed := by kernel_rfl
  f137 := Tryd.func44.trans (congrArg some (by kernel_rfl))
  f217 := Tryd.func57.trans (congrArg some (by kernel_rfl))
  f266 := Tryd.func79.trans (congrArg some (by kernel_rfl))
  t3 := Tryd.underlying3
  a3 := Tryd.isAgg3
  z3 := Tryd.sizeOf3
  v3 := Tryd.zeroValue3
  t5 := Tryd.underlying5
  a5 := Tryd.isAgg5
  z5 := Tryd.sizeOf5
  v5 := Tryd.zeroValue5
  t9 := Tryd.underlying9
  a9 := Tryd.isAgg9
  z9 := Tryd.sizeOf9
  v9 := Tryd.zeroValue9 }
open Go.Shelf in
open Go.RowKit in
theorem strings_IndexByte.sh_strings_IndexByte (s : ByteArray) (c : Int) (w : World) :
    Calls Tryd.prog 44 #[.string s, .int .u8 c] w fun e w' => e = .returned (.int .i64 (Lib.indexByte s.data.toList c.toNat.toUInt8)) ∧ w' = w := Any.strings_IndexByte strings_IndexByte.sh_lays137 s c w
def strings_IndexByte.f (a0 : ByteArray) (a1 : Int) : Option Int := some (Lib.indexByte a0.data.toList a1.toNat.toUInt8)
theorem strings_IndexByte.calls (a0 : ByteArray) (a1 : Int) (r : Int) (w : World) (h : strings_IndexByte.f a0 a1 = some r) :
    Calls Tryd.prog 44 #[.string a0, .int .u8 a1] w fun e w' => e = .returned (.int .i64 r) ∧ Drawn0 w w' := by
  refine (strings_IndexByte.sh_strings_IndexByte a0 a1 w).mono ?_
  rintro e w' ⟨rfl, rfl⟩
  unfold strings_IndexByte.f at h
  cases h
  exact ⟨rfl, Drawn0.refl _⟩
def impl_baseBytes.l0 : Nat → ByteArray → ByteArray → List Int → Int → Int → Int → Int → Option (List Int × Bool)
 | 0, _, _, _, _, _, _, _ => none
 | k + 1, x0, x4, x5, x6, x7, x18, x19 => if x19 < x18 then (if 0 ≤ x19 then (if x19 < (x4.size : Int) then ((strings_IndexByte.f (⟨#[65, 66, 67, 68, 69, 70, 71, 72, 73, 74, 75, 76, 77, 78, 79, 80, 81, 82, 83, 84, 85, 86, 87, 88, 89, 90, 97, 98, 99, 100, 101, 102, 103, 104, 105, 106, 107, 108, 109, 110, 111, 112, 113, 114, 115, 116, 117, 118, 119, 120, 121, 122, 48, 49, 50, 51, 52, 53, 54, 55, 56, 57, 43, 47]⟩ : ByteArray) (bt x4 x19)).bind fun t263 => (if t263 < 0 then (some (([] : List Int), false)) else (if (wrap64 (x7 + 6)) ≥ 8 then (if 0 ≤ (wrap64 ((wrap64 (x7 + 6)) - 8)) then (if x5.length < 140737488355328 then (impl_baseBytes.l0 k x0 x4 (x5 ++ [(shr .i64 (Go.bits .or .i64 (wrap64 (x6 * 64)) t263) (wrap64 ((wrap64 (x7 + 6)) - 8))) % 256]) (Go.bits .and .i64 (Go.bits .or .i64 (wrap64 (x6 * 64)) t263) (wrap64 ((shl .i64 1 (wrap64 ((wrap64 (x7 + 6)) - 8))) - 1))) (wrap64 ((wrap64 (x7 + 6)) - 8)) x18 (wrap64 (x19 + 1))) else (none)) else (none)) else (impl_baseBytes.l0 k x0 x4 x5 (Go.bits .or .i64 (wrap64 (x6 * 64)) t263) (wrap64 (x7 + 6)) x18 (wrap64 (x19 + 1)))))) else (none)) else (none)) else ((impl_baseText.f x5).bind fun t262 => (some (x5, (t262.toList == x0.toList))))
def impl_baseBytes.f (k : Nat) (a0 : ByteArray) : Option (List Int × Bool) := if ((a0.size : Int) % 4) = 0 then ((strings_TrimRight.f a0 (⟨#[61]⟩ : ByteArray)).bind fun t258 => (impl_baseBytes.l0 k a0 t258 (([] : List Int)) 0 0 (t258.size : Int) 0)) else (some (([] : List Int), false))
set_option maxHeartbeats 8000000 in
set_option maxRecDepth 100000 in
theorem impl_baseBytes.calls (k : Nat) (a0 : ByteArray) (r1 : List Int) (r2 : Bool) (w : World) (h : impl_baseBytes.f k a0 = some (r1, r2)) :
  Calls Tryd.prog 28 #[.string a0] w fun e w' => ∃ v0_ : Value, e = .returned (.tuple #[v0_, .bool r2]) ∧ Kd.R (Kd.int .u8) 5 w' w.heap.size (fun _ => True) v0_ r1 ∧ Below w.heap.size w w' := by
 have HB := Aside0.mk (Below.refl w.heap.size w)
 have H : (if ((a0.size : Int) % 4) = 0 then ((strings_TrimRight.f a0 (⟨#[61]⟩ : ByteArray)).bind fun t258 => (impl_baseBytes.l0 k a0 t258 (([] : List Int)) 0 0 (t258.size : Int) 0)) else (some (([] : List Int), false))) = some (r1, r2) := h
 clear h
 have HQ_ := Aside0.mk H
 clear H
 go_enter Tryd.func28, Tryd.ntmps28
 have H := HQ_.out
 clear HQ_
 by_cases c2 : ((a0.size : Int) % 4) = 0
 ·rw [if_pos c2] at H
  have c2b0 : (((a0.size : Int) % 4) == 0) = true := beq_iff_eq.mpr c2
  have c2b1 : (((a0.size : Int) % 4) != 0) = false := bne_eq_false_iff_eq.mpr c2
  clear c2
  replace H := Option.bind_eq_some_iff.mp H
  obtain ⟨t258, A30, H⟩ := H
  replace H : (impl_baseBytes.l0 k a0 t258 (([] : List Int)) 0 0 (t258.size : Int) 0) = some (r1, r2) := H
  have A3 := Aside0.mk A30
  clear A30
  obtain ⟨y259, hy259⟩ : ∃ y_ : List Int, y_ = (([] : List Int)) := ⟨_, rfl⟩
  replace H : (impl_baseBytes.l0 k a0 t258 y259 0 0 (t258.size : Int) 0) = some (r1, r2) := z0 hy259
  have Ny259 := Aside0.mk hy259
  clear hy259
  have H' := Aside0.mk H
  clear H
  (try simp only [c2b0, c2b1])
  go_wp2_with (first | ((with_reducible refine gate_callee (f := 43) rfl ?_); refine goesL_ (some 15) rfl rfl Tryd.func43 (by kernel_rfl) rfl #[.string a0, .string (⟨#[61]⟩ : ByteArray)] rfl bM ?_; (with_reducible refine (strings_TrimRight.calls a0 (⟨#[61]⟩ : ByteArray) t258 _ A3.out).mono ?_); rintro e w' ⟨rfl, ⟨nd, rfl⟩⟩; refine ⟨_, rfl, ?_⟩) | ((with_reducible refine gate_dst (N := 16) rfl ?_); refine Kd.R_lit (Kd.int .u8) _ 5 ?hg (N := 16) ?hd (xs := ([] : List Int)) (inner := []) (ok := fun _ => True) (okp := fun _ => True) ?hr ?hp (fun _ hk => hk) trivial (Below.refl _ _) (Nat.le_refl _) (by simp) ?_; (case hd => rfl); (case hg => rfl); (case hr => exact z11); (case hp => exact (Reps.none _ _)); intro v260 w4 ho5 hb hg_ hnew_; clear hg_ hnew_; (first | rw [← Ny259.out] at ho5 | (simp only [Int.reduceToNat] at ho5; rw [← Ny259.out] at ho5)); have HO261 := Aside0.mk (Kd.R_lower ho5 (below_size bB)); replace HB := Aside0.mk (below_step bB hb); clear hb ho5))
  go_loopg [5, 6, 7, 19] k (fun kq v5 v6 v7 v19 w' => ∃ (x5_1 : List Int) (x6_1 : Int) (x7_1 : Int) (x19_1 : Int), v6 = .int .i64 x6_1 ∧ v7 = .int .i64 x7_1 ∧ v19 = .int .i64 x19_1 ∧ Aside0 (impl_baseBytes.l0 kq a0 t258 x5_1 x6_1 x7_1 (t258.size : Int) x19_1 = some (r1, r2)) ∧ Aside0 (kq ≤ k) ∧ Aside0 (Kd.R (Kd.int .u8) 5 w' w.heap.size (fun _ => True) v5 x5_1) ∧ Aside0 (Below w.heap.size w w'))
  case atStart => exact ⟨(y259), (0), (0), (0), bS, bS, bS, H', ⟨Nat.le_refl _⟩, ⟨bR HO261⟩, ⟨bB⟩⟩
  case round =>
   clear H'
   try clear c2
   try clear c2b0
   try clear c2b1
   try clear p2
   try clear c4
   obtain ⟨x5_1, x6_1, x7_1, x19_1, rfl, rfl, rfl, HA, HK1, HO_5, HB⟩ := hrel
   cases gk with
   | zero => exact absurd HA.out (by simp [impl_baseBytes.l0])
   | succ k1 =>
    have H := HA.out
    clear HA
    simp only [impl_baseBytes.l0] at H
    by_cases c6 : x19_1 < (t258.size : Int)
    ·rw [if_pos c6] at H
     have c6b0 : decide (x19_1 < (t258.size : Int)) = true := decide_eq_true c6
     clear c6
     by_cases c7 : 0 ≤ x19_1
     ·rw [if_pos c7] at H
      have c7b0 : decide (0 ≤ x19_1) = true := decide_eq_true c7
      clear c7
      by_cases c8 : x19_1 < (t258.size : Int)
      ·rw [if_pos c8] at H
       have c8b0 : decide (x19_1 < (t258.size : Int)) = true := decide_eq_true c8
       clear c8
       replace H := Option.bind_eq_some_iff.mp H
       obtain ⟨t263, A100, H⟩ := H
       replace H : (if t263 < 0 then (some (([] : List Int), false)) else (if (wrap64 (x7_1 + 6)) ≥ 8 then (if 0 ≤ (wrap64 ((wrap64 (x7_1 + 6)) - 8)) then (if x5_1.length < 140737488355328 then (impl_baseBytes.l0 k1 a0 t258 (x5_1 ++ [(shr .i64 (Go.bits .or .i64 (wrap64 (x6_1 * 64)) t263) (wrap64 ((wrap64 (x7_1 + 6)) - 8))) % 256]) (Go.bits .and .i64 (Go.bits .or .i64 (wrap64 (x6_1 * 64)) t263) (wrap64 ((shl .i64 1 (wrap64 ((wrap64 (x7_1 + 6)) - 8))) - 1))) (wrap64 ((wrap64 (x7_1 + 6)) - 8)) (t258.size : Int) (wrap64 (x19_1 + 1))) else (none)) else (none)) else (impl_baseBytes.l0 k1 a0 t258 x5_1 (Go.bits .or .i64 (wrap64 (x6_1 * 64)) t263) (wrap64 (x7_1 + 6)) (t258.size : Int) (wrap64 (x19_1 + 1))))) = some (r1, r2) := H
       have A10 := Aside0.mk A100
       clear A100
       by_cases c11 : t263 < 0
       ·rw [if_pos c11] at H
        have c11b0 : decide (t263 < 0) = true := decide_eq_true c11
        clear c11
        simp only [Option.some.injEq, Prod.mk.injEq] at H
        obtain ⟨rfl, rfl⟩ := H
        have p9 : 0 ≤ (x19_1 : Int) := pI
        have q9 : x19_1 < (t258.size : Int) := pI
        have hx9 := bt_at t258 x19_1
        replace p9 := eq_true p9
        replace q9 := eq_true q9
        go_wp2_with (first | ((with_reducible refine gate_callee (f := 44) rfl ?_); refine goesL_ (some 25) rfl rfl Tryd.func44 (by kernel_rfl) rfl #[.string (⟨#[65, 66, 67, 68, 69, 70, 71, 72, 73, 74, 75, 76, 77, 78, 79, 80, 81, 82, 83, 84, 85, 86, 87, 88, 89, 90, 97, 98, 99, 100, 101, 102, 103, 104, 105, 106, 107, 108, 109, 110, 111, 112, 113, 114, 115, 116, 117, 118, 119, 120, 121, 122, 48, 49, 50, 51, 52, 53, 54, 55, 56, 57, 43, 47]⟩ : ByteArray), .int .u8 (bt t258 x19_1)] rfl bM ?_; (with_reducible refine (strings_IndexByte.calls (⟨#[65, 66, 67, 68, 69, 70, 71, 72, 73, 74, 75, 76, 77, 78, 79, 80, 81, 82, 83, 84, 85, 86, 87, 88, 89, 90, 97, 98, 99, 100, 101, 102, 103, 104, 105, 106, 107, 108, 109, 110, 111, 112, 113, 114, 115, 116, 117, 118, 119, 120, 121, 122, 48, 49, 50, 51, 52, 53, 54, 55, 56, 57, 43, 47]⟩ : ByteArray) (bt t258 x19_1) t263 _ A10.out).mono ?_); rintro e w' ⟨rfl, ⟨nd, rfl⟩⟩; refine ⟨_, rfl, ?_⟩))
        go_ret2
        exact ⟨_, bE, z4, bB⟩
       ·rw [if_neg c11] at H
        have c11b0 : decide (t263 < 0) = false := decide_eq_false c11
        clear c11
        by_cases c12 : (wrap64 (x7_1 + 6)) ≥ 8
        ·rw [if_pos c12] at H
         have c12b0 : decide (8 ≤ (wrap64 (x7_1 + 6))) = true := decide_eq_true c12
         clear c12
         obtain ⟨ji13, hji13⟩ : ∃ j_ : Int, (wrap64 ((wrap64 (x7_1 + 6)) - 8)) = j_ := ⟨_, rfl⟩
         replace H : (if 0 ≤ (ji13) then (if x5_1.length < 140737488355328 then (impl_baseBytes.l0 k1 a0 t258 (x5_1 ++ [(shr .i64 (Go.bits .or .i64 (wrap64 (x6_1 * 64)) t263) (ji13)) % 256]) (Go.bits .and .i64 (Go.bits .or .i64 (wrap64 (x6_1 * 64)) t263) (wrap64 ((shl .i64 1 (ji13)) - 1))) ji13 (t258.size : Int) (wrap64 (x19_1 + 1))) else (none)) else (none)) = some (r1, r2) := by first | (rw [hji13] at H; exact H) | (simp only [hji13] at H ⊢; exact H)
         (try rw [hji13] at A10)
         have hji13w : (IntKind.i64.wrap ((wrap64 (x7_1 + 6)) - 8)) = ji13 := (i64_w _).trans hji13
         by_cases c14 : 0 ≤ (ji13)
         ·rw [if_pos c14] at H
          have c14b0 := eq_true c14
          have c14b1 : decide (0 ≤ (ji13)) = true := decide_eq_true c14
          clear c14
          obtain ⟨ji15, hji15⟩ : ∃ j_ : Int, (shr .i64 (Go.bits .or .i64 (wrap64 (x6_1 * 64)) t263) (ji13)) = j_ := ⟨_, rfl⟩
          replace H : (if x5_1.length < 140737488355328 then (impl_baseBytes.l0 k1 a0 t258 (x5_1 ++ [(ji15) % 256]) (Go.bits .and .i64 (Go.bits .or .i64 (wrap64 (x6_1 * 64)) t263) (wrap64 ((shl .i64 1 (ji13)) - 1))) ji13 (t258.size : Int) (wrap64 (x19_1 + 1))) else (none)) = some (r1, r2) := by first | (rw [hji15] at H; exact H) | (simp only [hji15] at H ⊢; exact H)
          (try rw [hji15] at A10)
          have hji15_ : ((Go.bits .or .i64 (wrap64 (x6_1 * 64)) t263) / 2 ^ min (ji13).toNat 64) = ji15 := hji15
          have hji15z : (ji13) ≤ 64 → ((Go.bits .or .i64 (wrap64 (x6_1 * 64)) t263) / 2 ^ (ji13).toNat) = ji15 := shr_small hji15
          by_cases c16 : x5_1.length < 140737488355328
          ·rw [if_pos c16] at H
           have LMc16 := Aside0.mk c16
           clear c16
           obtain ⟨y264, hy264⟩ : ∃ y_ : List Int, y_ = (x5_1 ++ [(ji15) % 256]) := ⟨_, rfl⟩
           replace H : (impl_baseBytes.l0 k1 a0 t258 y264 (Go.bits .and .i64 (Go.bits .or .i64 (wrap64 (x6_1 * 64)) t263) (wrap64 ((shl .i64 1 (ji13)) - 1))) ji13 (t258.size : Int) (wrap64 (x19_1 + 1))) = some (r1, r2) := z0 hy264
           have Ny264 := Aside0.mk hy264
           clear hy264
           have c17b0 := eq_true (pI : 0 ≤ (ji13))
           obtain ⟨ji18, hji18⟩ : ∃ j_ : Int, (shl .i64 1 (ji13)) = j_ := ⟨_, rfl⟩
           replace H : (impl_baseBytes.l0 k1 a0 t258 y264 (Go.bits .and .i64 (Go.bits .or .i64 (wrap64 (x6_1 * 64)) t263) (wrap64 ((ji18) - 1))) ji13 (t258.size : Int) (wrap64 (x19_1 + 1))) = some (r1, r2) := by first | (rw [hji18] at H; exact H) | (simp only [hji18] at H ⊢; exact H)
           (try rw [hji18] at A10)
           have hji18_ : (IntKind.i64.wrap (1 * 2 ^ min (ji13).toNat 64)) = ji18 := hji18
           have hji18z : (ji13) ≤ 64 → (IntKind.i64.wrap (1 * 2 ^ (ji13).toNat)) = ji18 := shl_small hji18
           have hji18u : (IntKind.i64.wrap (2 ^ min (ji13).toNat 64)) = ji18 := by have h_ := hji18_; rw [Int.one_mul] at h_; exact h_
           have hji18v : (ji13) ≤ 64 → (IntKind.i64.wrap (2 ^ (ji13).toNat)) = ji18 := fun hle_ => by have h_ := hji18z hle_; rw [Int.one_mul] at h_; exact h_
           have hji18y : (wrap64 (1 * 2 ^ min (ji13).toNat 64)) = ji18 := (i64_w _).symm.trans hji18_
           have hji18x : (ji13) ≤ 64 → (wrap64 (1 * 2 ^ (ji13).toNat)) = ji18 := fun h_ => (i64_w _).symm.trans (hji18z h_)
           have H' := Aside0.mk H
           clear H
           have p9 : 0 ≤ (x19_1 : Int) := pI
           have q9 : x19_1 < (t258.size : Int) := pI
           have hx9 := bt_at t258 x19_1
           replace p9 := eq_true p9
           replace q9 := eq_true q9
           go_wp2_with (first | ((with_reducible refine gate_callee (f := 44) rfl ?_); refine goesL_ (some 25) rfl rfl Tryd.func44 (by kernel_rfl) rfl #[.string (⟨#[65, 66, 67, 68, 69, 70, 71, 72, 73, 74, 75, 76, 77, 78, 79, 80, 81, 82, 83, 84, 85, 86, 87, 88, 89, 90, 97, 98, 99, 100, 101, 102, 103, 104, 105, 106, 107, 108, 109, 110, 111, 112, 113, 114, 115, 116, 117, 118, 119, 120, 121, 122, 48, 49, 50, 51, 52, 53, 54, 55, 56, 57, 43, 47]⟩ : ByteArray), .int .u8 (bt t258 x19_1)] rfl bM ?_; (with_reducible refine (strings_IndexByte.calls (⟨#[65, 66, 67, 68, 69, 70, 71, 72, 73, 74, 75, 76, 77, 78, 79, 80, 81, 82, 83, 84, 85, 86, 87, 88, 89, 90, 97, 98, 99, 100, 101, 102, 103, 104, 105, 106, 107, 108, 109, 110, 111, 112, 113, 114, 115, 116, 117, 118, 119, 120, 121, 122, 48, 49, 50, 51, 52, 53, 54, 55, 56, 57, 43, 47]⟩ : ByteArray) (bt t258 x19_1) t263 _ A10.out).mono ?_); rintro e w' ⟨rfl, ⟨nd, rfl⟩⟩; refine ⟨_, rfl, ?_⟩) | ((with_reducible refine gate_builtin (b := .append) (xs := #[.tmp 38, .tmp 43]) rfl ?_); at_builtin; refine Kd.R_append (Kd.int .u8) (w0 := w) w.heap.size rfl (.tmp 38) (.tmp 43) 22 5 (.int .u8 0) 1 rfl Tryd.underlying22 info5 rfl (by decide) (by omega) u5 x5_1 ((ji15) % 256) [.int .u8 ((ji15) % 256)] (fun _ => True) (fun _ => False) rfl rfl ?aP (fun _ hk => hk.elim) ?aF ?aO ?aB ?aS ?aL ?_; (case aP => exact rfl); (case aB => exact bB); (case aF => exact (fun _ _ => trivial)); (case aO => exact (bR HO_5)); (case aS => exact (below_size bB)); (case aL => have := LMc16.out; omega); intro v265 w19 ho hb hg hat; rw [← Ny264.out] at ho; have n0_ := Aside0.mk (hb); have n1_ := Aside0.mk (ho); clear HB; clear HO_5; have HB := n0_; have HO266 := n1_; clear n0_ n1_; clear ho hb hg hat))
           go_roundg k1
           case measure => have := HK1.out; omega
           case rel => exact ⟨(y264), (Go.bits .and .i64 (Go.bits .or .i64 (wrap64 (x6_1 * 64)) t263) (wrap64 ((ji18) - 1))), (ji13), (wrap64 (x19_1 + 1)), (by first | rfl | (simp; done) | (simp only [← hji18] <;> (first | rfl | simp)) | (simp [*]; done)), (by first | rfl | (simp; done) | (simp only [← hji13] <;> (first | rfl | simp)) | (simp [*]; done)), bS, H', ⟨by have := HK1.out; omega⟩, ⟨bR HO266⟩, ⟨bB⟩⟩
          ·rw [if_neg c16] at H
           exact absurd H (by simp)
         ·rw [if_neg c14] at H
          exact absurd H (by simp)
        ·rw [if_neg c12] at H
         have c12b0 : decide (8 ≤ (wrap64 (x7_1 + 6))) = false := decide_eq_false c12
         clear c12
         have H' := Aside0.mk H
         clear H
         have p9 : 0 ≤ (x19_1 : Int) := pI
         have q9 : x19_1 < (t258.size : Int) := pI
         have hx9 := bt_at t258 x19_1
         replace p9 := eq_true p9
         replace q9 := eq_true q9
         go_wp2_with (first | ((with_reducible refine gate_callee (f := 44) rfl ?_); refine goesL_ (some 25) rfl rfl Tryd.func44 (by kernel_rfl) rfl #[.string (⟨#[65, 66, 67, 68, 69, 70, 71, 72, 73, 74, 75, 76, 77, 78, 79, 80, 81, 82, 83, 84, 85, 86, 87, 88, 89, 90, 97, 98, 99, 100, 101, 102, 103, 104, 105, 106, 107, 108, 109, 110, 111, 112, 113, 114, 115, 116, 117, 118, 119, 120, 121, 122, 48, 49, 50, 51, 52, 53, 54, 55, 56, 57, 43, 47]⟩ : ByteArray), .int .u8 (bt t258 x19_1)] rfl bM ?_; (with_reducible refine (strings_IndexByte.calls (⟨#[65, 66, 67, 68, 69, 70, 71, 72, 73, 74, 75, 76, 77, 78, 79, 80, 81, 82, 83, 84, 85, 86, 87, 88, 89, 90, 97, 98, 99, 100, 101, 102, 103, 104, 105, 106, 107, 108, 109, 110, 111, 112, 113, 114, 115, 116, 117, 118, 119, 120, 121, 122, 48, 49, 50, 51, 52, 53, 54, 55, 56, 57, 43, 47]⟩ : ByteArray) (bt t258 x19_1) t263 _ A10.out).mono ?_); rintro e w' ⟨rfl, ⟨nd, rfl⟩⟩; refine ⟨_, rfl, ?_⟩))
         go_roundg k1
         case measure => have := HK1.out; omega
         case rel => exact ⟨(x5_1), (Go.bits .or .i64 (wrap64 (x6_1 * 64)) t263), (wrap64 (x7_1 + 6)), (wrap64 (x19_1 + 1)), bS, bS, bS, H', ⟨by have := HK1.out; omega⟩, ⟨bR HO_5⟩, ⟨bB⟩⟩
      ·rw [if_neg c8] at H
       exact absurd H (by simp)
     ·rw [if_neg c7] at H
      exact absurd H (by simp)
    ·rw [if_neg c6] at H
     have c6b0 : decide (x19_1 < (t258.size : Int)) = false := decide_eq_false c6
     clear c6
     replace H := Option.bind_eq_some_iff.mp H
     obtain ⟨t262, A200, H⟩ := H
     replace H : (some (x5_1, (t262.toList == a0.toList))) = some (r1, r2) := H
     have A20 := Aside0.mk A200
     clear A200
     simp only [Option.some.injEq, Prod.mk.injEq] at H
     obtain ⟨rfl, rfl⟩ := H
     obtain ⟨Ao21, co21, eo21⟩ := Kd.R_slice HO_5.out
     subst eo21
     go_wp2_with (first | ((with_reducible refine gate_callee (f := 30) rfl ?_); refine goesL_ (some 53) rfl rfl Tryd.func30 (by kernel_rfl) rfl #[.slice Ao21 x5_1.length co21] rfl bM ?_; (with_reducible refine (impl_baseText.calls _ _ x5_1 t262 _ ?side1 ?side2 A20.out).mono ?_); (case side1 => exact z3 HO_5.out); (case side2 => exact (Kd.R_reads' HO_5.out).2.1); rintro e w22 ⟨rfl, hb⟩; refine ⟨_, rfl, ?_⟩; replace HO_5 := Aside0.mk (Kd.R_below (bR HO_5) hb); replace HB := Aside0.mk (below_step bB hb); (try clear hi)))
     go_ret2
     exact ⟨_, bE, bR HO_5, bB⟩
 ·rw [if_neg c2] at H
  have c2b0 : (((a0.size : Int) % 4) == 0) = false := beq_eq_false_iff_ne.mpr c2
  have c2b1 : (((a0.size : Int) % 4) != 0) = true := bne_iff_ne.mpr c2
  simp only [Option.some.injEq, Prod.mk.injEq] at H
  obtain ⟨rfl, rfl⟩ := H
  (try simp only [c2b0, c2b1])
  go_wp2
  go_ret2
  exact ⟨_, bE, z4, bB⟩
def impl_DecodeBase.f (k : Nat) (a0 : ByteArray) : Option (Int × List Int) := if (a0.size : Int) > 1600 then (some (2, ([] : List Int))) else ((impl_baseBytes.f k a0).bind fun bt268 => (if bt268.2 = true then (if (bt268.1.length : Int) > 400 then (some (2, ([] : List Int))) else (some (0, bt268.1))) else (some (7, ([] : List Int)))))
set_option maxHeartbeats 8000000 in
set_option maxRecDepth 100000 in
theorem impl_DecodeBase.calls (k : Nat) (a0 : ByteArray) (r1 : Int) (r2 : List Int) (w : World) (h : impl_DecodeBase.f k a0 = some (r1, r2)) :
  Calls Tryd.prog 7 #[.string a0] w fun e w' => ∃ v1_ : Value, e = .returned (.agg #[.int .i64 r1, v1_]) ∧ Kd.R (Kd.int .u8) 5 w' w.heap.size (fun _ => True) v1_ r2 ∧ Below w.heap.size w w' := by
 have hu26 := Tryd.underlying26
 have HB := Aside0.mk (Below.refl w.heap.size w)
 have H : (if (a0.size : Int) > 1600 then (some (2, ([] : List Int))) else ((impl_baseBytes.f k a0).bind fun bt268 => (if bt268.2 = true then (if (bt268.1.length : Int) > 400 then (some (2, ([] : List Int))) else (some (0, bt268.1))) else (some (7, ([] : List Int)))))) = some (r1, r2) := h
 clear h
 have HQ_ := Aside0.mk H
 clear H
 go_enter Tryd.func7, Tryd.ntmps7
 have H := HQ_.out
 clear HQ_
 by_cases c2 : (a0.size : Int) > 1600
 ·rw [if_pos c2] at H
  have c2b0 : decide (1600 < (a0.size : Int)) = true := decide_eq_true c2
  have c2b1 : decide (1600 < a0.size) = true := decide_eq_true (by omega)
  clear c2
  simp only [Option.some.injEq, Prod.mk.injEq] at H
  obtain ⟨rfl, rfl⟩ := H
  (try simp only [c2b0, c2b1])
  go_wp2_with (first | ((with_reducible refine gate_dst (N := 2) rfl ?_); refine box_event ?hg (N := 2) ?hd (cs := #[.int .i64 0, .slice none 0 0]) (t := 26) ?hr ?_; (case hd => rfl); (case hg => rfl); (case hr => exact z11); intro gb267 hg w3 hbox hb; have BK267 := Aside0.mk (hbox); have GW267 := Aside0.mk ((z18 : w.heap.size ≤ gb267)); have GE267 := Aside0.mk ((z18 : w.heap.size ≤ gb267)); replace HB := Aside0.mk (below_step bB hb); clear hb hbox hg; have hcz4_0 : w3.cell? ⟨gb267, 0, none⟩ = some (.int .i64 0) := (blk_cell BK267.out 0).trans rfl; have hcz4_1 : w3.cell? ⟨gb267, 1, none⟩ = some (.slice none 0 0) := (blk_cell BK267.out 1).trans rfl; have hfz4_0 := blk_frozen BK267.out 0; have hfz4_1 := blk_frozen BK267.out 1))
  refine bodyPost_ret (results_cell_row rfl _ _ gb267 26 #[.int .i64 2, .slice none 0 0] (0, 0) _ rfl (z15 BK267.out) Tryd.underlying26 rfl (by kernel_rfl)) rfl ?_
  exact ⟨_, bE, z4, bG GE267⟩
 ·rw [if_neg c2] at H
  have c2b0 : decide (1600 < (a0.size : Int)) = false := decide_eq_false c2
  have c2b1 : decide (1600 < a0.size) = false := decide_eq_false (by omega)
  clear c2
  replace H := Option.bind_eq_some_iff.mp H
  obtain ⟨⟨t268, t269⟩, A50, H⟩ := H
  replace H : (if t269 = true then (if (t268.length : Int) > 400 then (some (2, ([] : List Int))) else (some (0, t268))) else (some (7, ([] : List Int)))) = some (r1, r2) := H
  have A5 := Aside0.mk A50
  clear A50
  (try simp only [c2b0, c2b1])
  by_cases c6 : t269 = true
  ·subst c6
   have H1 : (if (t268.length : Int) > 400 then (some (2, ([] : List Int))) else (some (0, t268))) = some (r1, r2) := z31
   clear H
   have H := H1
   clear H1
   by_cases c7 : (t268.length : Int) > 400
   ·rw [if_pos c7] at H
    have c7b0 : decide (400 < (t268.length : Int)) = true := decide_eq_true c7
    have c7b1 : decide (400 < t268.length) = true := decide_eq_true (by omega)
    clear c7
    simp only [Option.some.injEq, Prod.mk.injEq] at H
    obtain ⟨rfl, rfl⟩ := H
    (try simp only [c7b0, c7b1])
    go_wp2_with (first | ((with_reducible refine gate_dst (N := 2) rfl ?_); refine box_event ?hg (N := 2) ?hd (cs := #[.int .i64 0, .slice none 0 0]) (t := 26) ?hr ?_; (case hd => rfl); (case hg => rfl); (case hr => exact z11); intro gb267 hg w8 hbox hb; have BK267 := Aside0.mk (hbox); have GW267 := Aside0.mk ((z18 : w.heap.size ≤ gb267)); have GE267 := Aside0.mk ((z18 : w.heap.size ≤ gb267)); replace HB := Aside0.mk (below_step bB hb); clear hb hbox hg) | ((with_reducible refine gate_callee (f := 28) rfl ?_); refine goesL_ (some 11) rfl rfl Tryd.func28 (by kernel_rfl) rfl #[.string a0] rfl bM ?_; (with_reducible refine (impl_baseBytes.calls k a0 t268 true _ A5.out).mono ?_); rintro e w9 ⟨v270, rfl, ho0, hb⟩; refine ⟨_, rfl, ?_⟩; have HO271 := Aside0.mk (Kd.R_lower ho0 (below_size (bG GE267))); replace BK267 := Aside0.mk (blk_below (g := gb267) (o := .cells #[.int .i64 0, .slice none 0 0] 26 (0, 0)) (bL BK267) hb); replace HB := Aside0.mk (below_step (bG GE267) hb); (try clear ho0); obtain ⟨Ao10, co10, eo10⟩ := Kd.R_slice HO271.out; subst eo10; have hcz11_0 : w9.cell? ⟨gb267, 0, none⟩ = some (.int .i64 0) := (blk_cell BK267.out 0).trans rfl; have hcz11_1 : w9.cell? ⟨gb267, 1, none⟩ = some (.slice none 0 0) := (blk_cell BK267.out 1).trans rfl; have hfz11_0 := blk_frozen BK267.out 0; have hfz11_1 := blk_frozen BK267.out 1))
    refine bodyPost_ret (results_cell_row rfl _ _ gb267 26 #[.int .i64 2, .slice none 0 0] (0, 0) _ rfl (z15 BK267.out) Tryd.underlying26 rfl (by kernel_rfl)) rfl ?_
    exact ⟨_, bE, z4, bG GE267⟩
   ·rw [if_neg c7] at H
    have c7b0 : decide (400 < (t268.length : Int)) = false := decide_eq_false c7
    have c7b1 : decide (400 < t268.length) = false := decide_eq_false (by omega)
    clear c7
    simp only [Option.some.injEq, Prod.mk.injEq] at H
    obtain ⟨rfl, rfl⟩ := H
    (try simp only [c7b0, c7b1])
    go_wp2_with (first | ((with_reducible refine gate_dst (N := 2) rfl ?_); refine box_event ?hg (N := 2) ?hd (cs := #[.int .i64 0, .slice none 0 0]) (t := 26) ?hr ?_; (case hd => rfl); (case hg => rfl); (case hr => exact z11); intro gb267 hg w12 hbox hb; have BK267 := Aside0.mk (hbox); have GW267 := Aside0.mk ((z18 : w.heap.size ≤ gb267)); have GE267 := Aside0.mk ((z18 : w.heap.size ≤ gb267)); replace HB := Aside0.mk (below_step bB hb); clear hb hbox hg) | ((with_reducible refine gate_callee (f := 28) rfl ?_); refine goesL_ (some 11) rfl rfl Tryd.func28 (by kernel_rfl) rfl #[.string a0] rfl bM ?_; (with_reducible refine (impl_baseBytes.calls k a0 t268 true _ A5.out).mono ?_); rintro e w13 ⟨v270, rfl, ho0, hb⟩; refine ⟨_, rfl, ?_⟩; have HO271 := Aside0.mk (Kd.R_lower ho0 (below_size (bG GE267))); replace BK267 := Aside0.mk (blk_below (g := gb267) (o := .cells #[.int .i64 0, .slice none 0 0] 26 (0, 0)) (bL BK267) hb); replace HB := Aside0.mk (below_step (bG GE267) hb); (try clear ho0); obtain ⟨Ao14, co14, eo14⟩ := Kd.R_slice HO271.out; subst eo14; have hcz15_0 : w13.cell? ⟨gb267, 0, none⟩ = some (.int .i64 0) := (blk_cell BK267.out 0).trans rfl; have hcz15_1 : w13.cell? ⟨gb267, 1, none⟩ = some (.slice none 0 0) := (blk_cell BK267.out 1).trans rfl; have hfz15_0 := blk_frozen BK267.out 0; have hfz15_1 := blk_frozen BK267.out 1))
    refine bodyPost_ret (results_cell_row rfl _ _ gb267 26 #[.int .i64 0, .slice Ao14 t268.length co14] (0, 0) _ rfl (z22 BK267.out) Tryd.underlying26 rfl (by kernel_rfl)) rfl ?_
    exact ⟨_, bE, by (with_reducible repeat (first | apply Kd.R_alloc | apply Kd.R_drewN | apply Kd.R_drew)); exact Kd.R_mono (Kd.R_far (p := ⟨gb267, 1, none⟩) (Kd.R_far (p := ⟨gb267, 0, none⟩) (Kd.R_types HO271.out BK267.out (by decide)) (fun _ hk => hk.2) (.int .i64 0)) (fun _ hk => hk.2) (.slice Ao14 t268.length co14)) (fun _ hk => trivial), bG GE267⟩
  ·replace c6 := Bool.eq_false_iff.mpr c6
   subst c6
   have H1 : (some (7, ([] : List Int))) = some (r1, r2) := z14
   clear H
   have H := H1
   clear H1
   simp only [Option.some.injEq, Prod.mk.injEq] at H
   obtain ⟨rfl, rfl⟩ := H
   go_wp2_with (first | ((with_reducible refine gate_dst (N := 2) rfl ?_); refine box_event ?hg (N := 2) ?hd (cs := #[.int .i64 0, .slice none 0 0]) (t := 26) ?hr ?_; (case hd => rfl); (case hg => rfl); (case hr => exact z11); intro gb267 hg w16 hbox hb; have BK267 := Aside0.mk (hbox); have GW267 := Aside0.mk ((z18 : w.heap.size ≤ gb267)); have GE267 := Aside0.mk ((z18 : w.heap.size ≤ gb267)); replace HB := Aside0.mk (below_step bB hb); clear hb hbox hg) | ((with_reducible refine gate_callee (f := 28) rfl ?_); refine goesL_ (some 11) rfl rfl Tryd.func28 (by kernel_rfl) rfl #[.string a0] rfl bM ?_; (with_reducible refine (impl_baseBytes.calls k a0 t268 false _ A5.out).mono ?_); rintro e w17 ⟨v270, rfl, ho0, hb⟩; refine ⟨_, rfl, ?_⟩; have HO271 := Aside0.mk (Kd.R_lower ho0 (below_size (bG GE267))); replace BK267 := Aside0.mk (blk_below (g := gb267) (o := .cells #[.int .i64 0, .slice none 0 0] 26 (0, 0)) (bL BK267) hb); replace HB := Aside0.mk (below_step (bG GE267) hb); (try clear ho0); have hcz18_0 : w17.cell? ⟨gb267, 0, none⟩ = some (.int .i64 0) := (blk_cell BK267.out 0).trans rfl; have hcz18_1 : w17.cell? ⟨gb267, 1, none⟩ = some (.slice none 0 0) := (blk_cell BK267.out 1).trans rfl; have hfz18_0 := blk_frozen BK267.out 0; have hfz18_1 := blk_frozen BK267.out 1))
   refine bodyPost_ret (results_cell_row rfl _ _ gb267 26 #[.int .i64 7, .slice none 0 0] (0, 0) _ rfl (by (with_reducible repeat (first | refine blk_drewN ?_ _ | refine blk_drew ?_ | refine blk_alloc ?_ _)); refine blk_put (cs := #[.int .i64 7, .slice none 0 0]) ?_ 1 _ rfl; (with_reducible repeat (first | refine blk_drewN ?_ _ | refine blk_drew ?_ | refine blk_alloc ?_ _)); refine blk_put (cs := #[.int .i64 0, .slice none 0 0]) ?_ 0 _ rfl; (with_reducible repeat (first | refine blk_drewN ?_ _ | refine blk_drew ?_ | refine blk_alloc ?_ _)); exact BK267.out) Tryd.underlying26 rfl (by kernel_rfl)) rfl ?_
   exact ⟨_, bE, z4, bG GE267⟩
def stringslite_HasPrefix.f (a0 : ByteArray) (a1 : ByteArray) : Option (Bool) := if (a0.size : Int) ≥ (a1.size : Int) then (if 0 ≤ (a1.size : Int) then (if (a1.size : Int) ≤ (a0.size : Int) then (some ((a0.extract 0 ((a1.size : Int) : Int).toNat).toList == a1.toList)) else (none)) else (none)) else (some false)
set_option maxHeartbeats 8000000 in
set_option maxRecDepth 100000 in
theorem stringslite_HasPrefix.calls (a0 : ByteArray) (a1 : ByteArray) (r : Bool) (w : World) (h : stringslite_HasPrefix.f a0 a1 = some r) :
  Calls Tryd.prog 86 #[.string a0, .string a1] w fun e w' => e = .returned (.bool r) ∧ Drawn0 w w' := by
 have H : (if (a0.size : Int) ≥ (a1.size : Int) then (if 0 ≤ (a1.size : Int) then (if (a1.size : Int) ≤ (a0.size : Int) then (some ((a0.extract 0 ((a1.size : Int) : Int).toNat).toList == a1.toList)) else (none)) else (none)) else (some false)) = some r := h
 clear h
 by_cases c3 : (a0.size : Int) ≥ (a1.size : Int)
 ·rw [if_pos c3] at H
  have c3b0 : decide ((a1.size : Int) ≤ (a0.size : Int)) = true := decide_eq_true c3
  have c3b1 : decide (a1.size ≤ a0.size) = true := decide_eq_true (Int.ofNat_le.mp c3)
  clear c3
  by_cases c4 : 0 ≤ (a1.size : Int)
  ·rw [if_pos c4] at H
   have c4b0 := eq_true c4
   have c4b1 : decide (0 ≤ (a1.size : Int)) = true := decide_eq_true c4
   clear c4
   by_cases c5 : (a1.size : Int) ≤ (a0.size : Int)
   ·rw [if_pos c5] at H
    have c5b0 := eq_true c5
    have c5b1 : decide ((a1.size : Int) ≤ (a0.size : Int)) = true := decide_eq_true c5
    clear c5
    obtain rfl := Option.some.inj H
    go_enter Tryd.func86, Tryd.ntmps86
    go_wp2
    go_ret
    exact ⟨bS, z2⟩
   ·rw [if_neg c5] at H
    exact absurd H (by simp)
  ·rw [if_neg c4] at H
   exact absurd H (by simp)
 ·rw [if_neg c3] at H
  have c3b0 : decide ((a1.size : Int) ≤ (a0.size : Int)) = false := decide_eq_false c3
  have c3b1 : decide (a1.size ≤ a0.size) = false := decide_eq_false (fun h => c3 (Int.ofNat_le.mpr h))
  clear c3
  obtain rfl := Option.some.inj H
  go_enter Tryd.func86, Tryd.ntmps86
  go_wp2
  go_ret
  exact ⟨bS, z2⟩
def stringslite_CutPrefix.f (a0 : ByteArray) (a1 : ByteArray) : Option (ByteArray × Bool) := (stringslite_HasPrefix.f a0 a1).bind fun t272 => (if t272 = true then (if 0 ≤ (a1.size : Int) then (if (a1.size : Int) ≤ (a0.size : Int) then (some (a0.extract ((a1.size : Int) : Int).toNat a0.size, true)) else (none)) else (none)) else (some (a0, false)))
set_option maxHeartbeats 8000000 in
set_option maxRecDepth 100000 in
theorem stringslite_CutPrefix.calls (a0 : ByteArray) (a1 : ByteArray) (r1 : ByteArray) (r2 : Bool) (w : World) (h : stringslite_CutPrefix.f a0 a1 = some (r1, r2)) :
  Calls Tryd.prog 84 #[.string a0, .string a1] w fun e w' => e = .returned (.tuple #[.string r1, .bool r2]) ∧ Drawn0 w w' := by
 have H : ((stringslite_HasPrefix.f a0 a1).bind fun t272 => (if t272 = true then (if 0 ≤ (a1.size : Int) then (if (a1.size : Int) ≤ (a0.size : Int) then (some (a0.extract ((a1.size : Int) : Int).toNat a0.size, true)) else (none)) else (none)) else (some (a0, false)))) = some (r1, r2) := h
 clear h
 replace H := Option.bind_eq_some_iff.mp H
 obtain ⟨t272, A30, H⟩ := H
 replace H : (if t272 = true then (if 0 ≤ (a1.size : Int) then (if (a1.size : Int) ≤ (a0.size : Int) then (some (a0.extract ((a1.size : Int) : Int).toNat a0.size, true)) else (none)) else (none)) else (some (a0, false))) = some (r1, r2) := H
 have A3 := Aside0.mk A30
 clear A30
 by_cases c4 : t272 = true
 ·subst c4
  have H1 : (if 0 ≤ (a1.size : Int) then (if (a1.size : Int) ≤ (a0.size : Int) then (some (a0.extract ((a1.size : Int) : Int).toNat a0.size, true)) else (none)) else (none)) = some (r1, r2) := z31
  clear H
  have H := H1
  clear H1
  by_cases c5 : 0 ≤ (a1.size : Int)
  ·rw [if_pos c5] at H
   have c5b0 := eq_true c5
   have c5b1 : decide (0 ≤ (a1.size : Int)) = true := decide_eq_true c5
   clear c5
   by_cases c6 : (a1.size : Int) ≤ (a0.size : Int)
   ·rw [if_pos c6] at H
    have c6b0 := eq_true c6
    have c6b1 : decide ((a1.size : Int) ≤ (a0.size : Int)) = true := decide_eq_true c6
    clear c6
    simp only [Option.some.injEq, Prod.mk.injEq] at H
    obtain ⟨rfl, rfl⟩ := H
    go_enter Tryd.func84, Tryd.ntmps84
    go_wp2_with (first | ((with_reducible refine gate_callee (f := 86) rfl ?_); refine goesL_ (some 8) rfl rfl Tryd.func86 (by kernel_rfl) rfl #[.string a0, .string a1] rfl bM ?_; (with_reducible refine (stringslite_HasPrefix.calls a0 a1 true _ A3.out).mono ?_); rintro e w' ⟨rfl, ⟨nd, rfl⟩⟩; refine ⟨_, rfl, ?_⟩))
    go_ret2
    exact ⟨bS, z2⟩
   ·rw [if_neg c6] at H
    exact absurd H (by simp)
  ·rw [if_neg c5] at H
   exact absurd H (by simp)
 ·replace c4 := Bool.eq_false_iff.mpr c4
  subst c4
  have H1 : (some (a0, false)) = some (r1, r2) := z14
  clear H
  have H := H1
  clear H1
  simp only [Option.some.injEq, Prod.mk.injEq] at H
  obtain ⟨rfl, rfl⟩ := H
  go_enter Tryd.func84, Tryd.ntmps84
  go_wp2_with (first | ((with_reducible refine gate_callee (f := 86) rfl ?_); refine goesL_ (some 8) rfl rfl Tryd.func86 (by kernel_rfl) rfl #[.string a0, .string a1] rfl bM ?_; (with_reducible refine (stringslite_HasPrefix.calls a0 a1 false _ A3.out).mono ?_); rintro e w' ⟨rfl, ⟨nd, rfl⟩⟩; refine ⟨_, rfl, ?_⟩))
  go_ret2
  exact ⟨bS, z2⟩
def strings_CutPrefix.f (a0 : ByteArray) (a1 : ByteArray) : Option (ByteArray × Bool) := (stringslite_CutPrefix.f a0 a1).bind fun bt273 => (some (bt273.1, bt273.2))
set_option maxHeartbeats 8000000 in
set_option maxRecDepth 100000 in
theorem strings_CutPrefix.calls (a0 : ByteArray) (a1 : ByteArray) (r1 : ByteArray) (r2 : Bool) (w : World) (h : strings_CutPrefix.f a0 a1 = some (r1, r2)) :
  Calls Tryd.prog 64 #[.string a0, .string a1] w fun e w' => e = .returned (.tuple #[.string r1, .bool r2]) ∧ Drawn0 w w' := by
 have H : ((stringslite_CutPrefix.f a0 a1).bind fun bt273 => (some (bt273.1, bt273.2))) = some (r1, r2) := h
 clear h
 replace H := Option.bind_eq_some_iff.mp H
 obtain ⟨⟨t273, t274⟩, A30, H⟩ := H
 replace H : (some (t273, t274)) = some (r1, r2) := H
 have A3 := Aside0.mk A30
 clear A30
 simp only [Option.some.injEq, Prod.mk.injEq] at H
 obtain ⟨rfl, rfl⟩ := H
 go_enter Tryd.func64, Tryd.ntmps64
 go_wp2_with (first | ((with_reducible refine gate_callee (f := 84) rfl ?_); refine goesL_ (some 8) rfl rfl Tryd.func84 (by kernel_rfl) rfl #[.string a0, .string a1] rfl bM ?_; (with_reducible refine (stringslite_CutPrefix.calls a0 a1 t273 t274 _ A3.out).mono ?_); rintro e w' ⟨rfl, ⟨nd, rfl⟩⟩; refine ⟨_, rfl, ?_⟩))
 go_ret2
 exact ⟨bS, z2⟩
open Go.Shelf in
def strings_SplitN.sh_lays147_ren : Go.Shelf.Ren := ⟨fun | 147 => 65 | 221 => 85 | 268 => 101 | 138 => 102 | 143 => 103 | 195 => 109 | 197 => 94 | 218 => 110 | 219 => 111 | 260 => 104 | 217 => 57 | 225 => 107 | 224 => 106 | 267 => 113 | 266 => 79 | 314 => 114 | n => n, fun | 9 => 9 | 3 => 3 | 31 => 63 | 4 => 4 | 0 => 0 | 105 => 98 | 21 => 21 | 5 => 5 | 46 => 66 | 119 => 116 | 139 => 119 | 138 => 118 | 146 => 122 | 51 => 121 | n => n, fun | 1 => 0 | 3 => 1 | 4 => 2 | n => n⟩
open Go.Shelf in
theorem strings_SplitN.sh_lays147 : Go.Proofs.Lays.n147 Tryd.prog strings_SplitN.sh_lays147_ren := {
  mixed := by kernel_rfl
  f138 := Tryd.func102.trans (congrArg some (by kernel_rfl))
  f143 := Tryd.func103.trans (congrArg some (by kernel_rfl))
  f147 := Tryd.func65.trans (congrArg some (by kernel_rfl))
  f195 := Tryd.func109.trans (congrArg some (by kernel_rfl))
  f197 := Tryd.func94.trans (congrArg some (by kernel_rfl))
  f217 := Tryd.func57.trans (congrArg some (by kernel_rfl))
  f218 := Tryd.func110.trans (congrArg some (by kernel_rfl))
  f219 := Tryd.func111.trans (congrArg some (by kernel_rfl))
  f221 := Tryd.func85.trans (congrArg some (by kernel_rfl))
  f224 := Tryd.func106.trans (congrArg some (by kernel_rfl))
  f225 := Tryd.func107.trans (congrArg some (by kernel_rfl))
  f260 := Tryd.func104.trans (congrArg some (by kernel_rfl))
  f266 := Tryd.func79.trans (congrArg some (by kernel_rfl))
  f267 := Tryd.func113.trans (congrArg some (by kernel_rfl))
  f268 := Tryd.func101.trans (congrArg some (by kernel_rfl))
  f314 := Tryd.func114.trans (congrArg some (by kernel_rfl))
  t0 := Tryd.underlying0
  a0 := Tryd.isAgg0
  z0 := Tryd.sizeOf0
  v0 := Tryd.zeroValue0
  t3 := Tryd.underlying3
  a3 := Tryd.isAgg3
  z3 := Tryd.sizeOf3
  v3 := Tryd.zeroValue3
  t4 := Tryd.underlying4
  a4 := Tryd.isAgg4
  z4 := Tryd.sizeOf4
  v4 := Tryd.zeroValue4
  t5 := Tryd.underlying5
  a5 := Tryd.isAgg5
  z5 := Tryd.sizeOf5
  v5 := Tryd.zeroValue5
  t9 := Tryd.underlying9
  a9 := Tryd.isAgg9
  z9 := Tryd.sizeOf9
  v9 := Tryd.zeroValue9
  t21 := Tryd.underlying21
  a21 := Tryd.isAgg21
  z21 := Tryd.sizeOf21
  v21 := Tryd.zeroValue21
  t31 := Tryd.underlying63
  a31 := Tryd.isAgg63
  z31 := Tryd.sizeOf63
  v31 := Tryd.zeroValue63
  t46 := Tryd.underlying66
  a46 := Tryd.isAgg66
  z46 := Tryd.sizeOf66
  v46 := Tryd.zeroValue66
  t51 := Tryd.underlying121
  a51 := Tryd.isAgg121
  z51 := Tryd.sizeOf121
  v51 := Tryd.zeroValue121
  t105 := Tryd.underlying98
  a105 := Tryd.isAgg98
  z105 := Tryd.sizeOf98
  v105 := Tryd.zeroValue98
  t119 := Tryd.underlying116
  a119 := Tryd.isAgg116
  z119 := Tryd.sizeOf116
  t138 := Tryd.underlying118
  a138 := Tryd.isAgg118
  z138 := Tryd.sizeOf118
  v138 := Tryd.zeroValue118
  t139 := Tryd.underlying119
  a139 := Tryd.isAgg119
  z139 := Tryd.sizeOf119
  v139 := Tryd.zeroValue119
  t146 := Tryd.underlying122
  a146 := Tryd.isAgg122
  z146 := Tryd.sizeOf122
  v146 := Tryd.zeroValue122
  g1 := by kernel_rfl
  g3 := by kernel_rfl
  g4 := by kernel_rfl }
open Go.Shelf in
open Go.RowKit Go.Lib in
theorem strings_SplitN.sh_strings_SplitN (s sep : ByteArray) (n : Nat) (m : Int) (w : World) (hs : s.size < 4294967281) (hm : w.cell? ⟨0, 0, none⟩ = some (.int .i64 m)) (h1 : 1 ≤ sep.size) (hn : 1 ≤ n) (hn63 : n ≤ 9223372036854775807) :
    Calls Tryd.prog 65 #[.string s, .string sep, .int .i64 n] w fun e w' =>
      e = .returned (.slice (some ⟨w.heap.size, 0, none⟩) (Lib.splitB sep 0 (min n (s.size + 1) - 1) s).length (min n (s.size + 1))) ∧ w' = w.alloc (.cells (Lib.cellsOf (Lib.splitB sep 0 (min n (s.size + 1) - 1) s) (min n (s.size + 1))) 9) := Any.strings_SplitN strings_SplitN.sh_lays147 (by kernel_rfl) s sep n m w hs hm h1 hn hn63
theorem strings_SplitN.below {w w' : World} {a : Addr} (h : ∃ m, w.cell? a = some (.int .i64 m)) (hb : Below w.heap.size w w') : ∃ m, w'.cell? a = some (.int .i64 m) := by
  obtain ⟨m, hm⟩ := h
  exact ⟨m, (hb.cell (World.block_lt_of_cell? w a hm)).trans hm⟩
theorem strings_SplitN.reps {W : World} {base : Nat} {ok : Nat → Prop} : ∀ xs : List ByteArray, Reps (Kd.string.M W base ok) Kd.string.sz xs (xs.map Value.string)
  | [] => Reps.none _ _
  | x :: r => Reps.one (show Kd.M Kd.string W base ok x [.string x] from rfl) (strings_SplitN.reps r)
def strings_SplitN.f (a0 : ByteArray) (a1 : ByteArray) (a2 : Int) : Option (List ByteArray) := if a0.size < 4294967281 ∧ 1 ≤ a1.size ∧ 1 ≤ a2 ∧ a2 ≤ 9223372036854775807 then some (Lib.splitB a1 0 (min a2.toNat (a0.size + 1) - 1) a0) else none
theorem strings_SplitN.calls (a0 : ByteArray) (a1 : ByteArray) (a2 : Int) (r : List ByteArray) (w : World) (hm_ : ∃ m, w.cell? ⟨0, 0, none⟩ = some (.int .i64 m)) (h : strings_SplitN.f a0 a1 a2 = some r) :
    Calls Tryd.prog 65 #[.string a0, .string a1, .int .i64 a2] w fun e w' => ∃ v0_ : Value, e = .returned (v0_) ∧ Kd.R Kd.string 9 w' w.heap.size (fun _ => True) v0_ r ∧ Below w.heap.size w w' := by
  unfold strings_SplitN.f at h
  by_cases h0 : a0.size < 4294967281 ∧ 1 ≤ a1.size ∧ 1 ≤ a2 ∧ a2 ≤ 9223372036854775807
  · obtain ⟨h1, h2, h3, h4⟩ := h0
    obtain ⟨n, rfl⟩ := Int.eq_ofNat_of_zero_le (show (0 : Int) ≤ a2 by omega)
    rw [if_pos ⟨h1, h2, h3, h4⟩, show ((n : Nat) : Int).toNat = n from Int.toNat_natCast n] at h
    cases h
    obtain ⟨m, hm⟩ := hm_
    have hl := Lib.splitB_length_le a1 0 (min n (a0.size + 1) - 1) a0
    have hcs := Lib.cellsOf_size (done := Lib.splitB a1 0 (min n (a0.size + 1) - 1) a0) (N := min n (a0.size + 1)) (by omega)
    have hs1 : Kd.string.sz = 1 := rfl
    refine (strings_SplitN.sh_strings_SplitN a0 a1 n m w h1 hm h2 (by omega) (by omega)).mono ?_
    rintro e w' ⟨rfl, rfl⟩
    refine ⟨_, rfl, ⟨fun _ _ => trivial, (Lib.splitB a1 0 (min n (a0.size + 1) - 1) a0).map Value.string, ⟨by rw [hs1, List.length_map, Nat.mul_one], .inr ⟨w.heap.size, min n (a0.size + 1), Lib.cellsOf (Lib.splitB a1 0 (min n (a0.size + 1) - 1) a0) (min n (a0.size + 1)), rfl, Nat.le_refl _, ⟨(0, 0), ?_, .inl rfl⟩, by omega, ?_, by rw [hcs, hs1, Nat.mul_one], ?_⟩⟩, strings_SplitN.reps _⟩, below_alloc (Below.refl _ _) _⟩
    · show (w.heap.push _)[w.heap.size]? = _; simp
    · have : min n (a0.size + 1) ≤ a0.size + 1 := Nat.min_le_right _ _
      unfold maxLen
      omega
    · rw [hs1, Nat.mul_one]
      simp [Lib.cellsOf]
  · rw [if_neg h0] at h
    cases h
def strings_HasPrefix.f (a0 : ByteArray) (a1 : ByteArray) : Option (Bool) := (stringslite_HasPrefix.f a0 a1).bind fun t275 => (some t275)
set_option maxHeartbeats 8000000 in
set_option maxRecDepth 100000 in
theorem strings_HasPrefix.calls (a0 : ByteArray) (a1 : ByteArray) (r : Bool) (w : World) (h : strings_HasPrefix.f a0 a1 = some r) :
  Calls Tryd.prog 66 #[.string a0, .string a1] w fun e w' => e = .returned (.bool r) ∧ Drawn0 w w' := by
 have H : ((stringslite_HasPrefix.f a0 a1).bind fun t275 => (some t275)) = some r := h
 clear h
 replace H := Option.bind_eq_some_iff.mp H
 obtain ⟨t275, A30, H⟩ := H
 replace H : (some t275) = some r := H
 have A3 := Aside0.mk A30
 clear A30
 obtain rfl := Option.some.inj H
 go_enter Tryd.func66, Tryd.ntmps66
 go_wp2_with (first | ((with_reducible refine gate_callee (f := 86) rfl ?_); refine goesL_ (some 7) rfl rfl Tryd.func86 (by kernel_rfl) rfl #[.string a0, .string a1] rfl bM ?_; (with_reducible refine (stringslite_HasPrefix.calls a0 a1 t275 _ A3.out).mono ?_); rintro e w' ⟨rfl, ⟨nd, rfl⟩⟩; refine ⟨_, rfl, ?_⟩))
 go_ret
 exact ⟨bS, z2⟩
def slices_Index_string_string.l0 : Nat → List ByteArray → ByteArray → Int → Int → Option (Int)
 | 0, _, _, _, _ => none
 | k + 1, x0, x1, x7, x8 => if x8 < x7 then (if 0 ≤ x8 then (if x8 < (x0.length : Int) then (if x1.toList = (rdOf ByteArray.empty x0 x8).toList then (some x8) else (slices_Index_string_string.l0 k x0 x1 x7 (wrap64 (x8 + 1)))) else (none)) else (none)) else (some (-1))
def slices_Index_string_string.f (k : Nat) (l0 : List ByteArray) (a1 : ByteArray) : Option (Int) := slices_Index_string_string.l0 k l0 a1 (l0.length : Int) 0
theorem slices_Index_string_string.mono_l : ∀ k, (∀ y0 y1 y2 y3, LeO (slices_Index_string_string.l0 k y0 y1 y2 y3) (slices_Index_string_string.l0 (k + 1) y0 y1 y2 y3))
 | 0 => fun _ _ _ _ r h => by simp [slices_Index_string_string.l0] at h
 | k + 1 => by
  have ih0 := slices_Index_string_string.mono_l k
  ·intro y0 y1 y2 y3
   unfold slices_Index_string_string.l0
   repeat' first
   | (with_reducible exact ih0 _ _ _ _)
   | (with_reducible exact LeO.refl _)
   | (with_reducible exact LeO.none _)
   | (with_reducible refine LeO.ite ?_ ?_)
   | (with_reducible refine LeO.bind ?_ (fun _ => ?_))
   | exact ih0 _ _ _ _
   | exact LeO.none _
   | refine LeO.ite ?_ ?_
   | refine LeO.bind ?_ (fun _ => ?_)
theorem slices_Index_string_string.mono : ∀ a0 a1 k, LeO (slices_Index_string_string.f k a0 a1) (slices_Index_string_string.f (k + 1) a0 a1) := by
 intro a0 a1 k
 have ih0 := slices_Index_string_string.mono_l k
 unfold slices_Index_string_string.f
 repeat' first
   | (with_reducible exact ih0 _ _ _ _)
   | (with_reducible exact LeO.refl _)
   | (with_reducible exact LeO.none _)
   | (with_reducible refine LeO.ite ?_ ?_)
   | (with_reducible refine LeO.bind ?_ (fun _ => ?_))
   | exact ih0 _ _ _ _
   | exact LeO.none _
   | refine LeO.ite ?_ ?_
   | refine LeO.bind ?_ (fun _ => ?_)
set_option maxHeartbeats 8000000 in
set_option maxRecDepth 100000 in
theorem slices_Index_string_string.calls (k : Nat) (A0 : Option Addr) (c0 : Nat) (l0 : List ByteArray) (a1 : ByteArray) (r : Int) (w : World) (hr0 : Kd.C Kd.string w A0 l0.length l0) (hc0 : l0.length ≤ c0) (h : slices_Index_string_string.f k l0 a1 = some r) :
  Calls Tryd.prog 87 #[.slice A0 l0.length c0, .string a1] w fun e w' => e = .returned (.int .i64 r) ∧ Drawn0 w w' := by
 have HR0 := Aside0.mk hr0
 have HC0 := Aside0.mk hc0
 clear hr0 hc0
 have H : (slices_Index_string_string.l0 k l0 a1 (l0.length : Int) 0) = some r := h
 clear h
 have H' := Aside0.mk H
 clear H
 go_enter Tryd.func87, Tryd.ntmps87
 go_wp2
 go_loopg [8] k (fun kq v8 w' => ∃ (x8_1 : Int), v8 = .int .i64 x8_1 ∧ Aside0 (slices_Index_string_string.l0 kq l0 a1 (l0.length : Int) x8_1 = some r) ∧ Aside0 (kq ≤ k) ∧ Drawn0 w w')
 case atStart => exact ⟨(0), bS, H', ⟨Nat.le_refl _⟩, z2⟩
 case round =>
  clear H'
  try clear p2
  obtain ⟨x8_1, rfl, HA, HK1, ⟨m1, rfl⟩⟩ := hrel
  cases gk with
  | zero => exact absurd HA.out (by simp [slices_Index_string_string.l0])
  | succ k1 =>
   have H := HA.out
   clear HA
   simp only [slices_Index_string_string.l0] at H
   by_cases c3 : x8_1 < (l0.length : Int)
   ·rw [if_pos c3] at H
    have c3b0 : decide (x8_1 < (l0.length : Int)) = true := decide_eq_true c3
    clear c3
    by_cases c4 : 0 ≤ x8_1
    ·rw [if_pos c4] at H
     have c4b0 : decide (0 ≤ x8_1) = true := decide_eq_true c4
     clear c4
     by_cases c5 : x8_1 < (l0.length : Int)
     ·rw [if_pos c5] at H
      have c5b0 : decide (x8_1 < (l0.length : Int)) = true := decide_eq_true c5
      clear c5
      by_cases c6 : a1.toList = (rdOf ByteArray.empty l0 x8_1).toList
      ·rw [if_pos c6] at H
       have c6b0 : (a1.toList == (rdOf ByteArray.empty l0 x8_1).toList) = true := beq_iff_eq.mpr c6
       have c6b1 : (a1.toList != (rdOf ByteArray.empty l0 x8_1).toList) = false := bne_eq_false_iff_eq.mpr c6
       clear c6
       obtain rfl := Option.some.inj H
       have p276 : 0 ≤ (x8_1 : Int) := pI
       have q276 : x8_1 < (l0.length : Int) := pI
       obtain ⟨ad276, e276, hx276_0⟩ := Kd.at_string HR0.out x8_1 p276 q276
       cases e276
       replace p276 := eq_true p276
       replace q276 := eq_true q276
       go_wp2
       go_ret
       exact ⟨bS, z2⟩
      ·rw [if_neg c6] at H
       have c6b0 : (a1.toList == (rdOf ByteArray.empty l0 x8_1).toList) = false := beq_eq_false_iff_ne.mpr c6
       have c6b1 : (a1.toList != (rdOf ByteArray.empty l0 x8_1).toList) = true := bne_iff_ne.mpr c6
       have H' := Aside0.mk H
       clear H
       have p276 : 0 ≤ (x8_1 : Int) := pI
       have q276 : x8_1 < (l0.length : Int) := pI
       obtain ⟨ad276, e276, hx276_0⟩ := Kd.at_string HR0.out x8_1 p276 q276
       cases e276
       replace p276 := eq_true p276
       replace q276 := eq_true q276
       go_wp2
       go_roundg k1
       case measure => have := HK1.out; omega
       case rel => exact ⟨(wrap64 (x8_1 + 1)), bS, H', ⟨by have := HK1.out; omega⟩, z2⟩
     ·rw [if_neg c5] at H
      exact absurd H (by simp)
    ·rw [if_neg c4] at H
     exact absurd H (by simp)
   ·rw [if_neg c3] at H
    have c3b0 : decide (x8_1 < (l0.length : Int)) = false := decide_eq_false c3
    clear c3
    obtain rfl := Option.some.inj H
    go_wp2
    go_ret
    exact ⟨bS, z2⟩
def impl_charsets.f  : Option (List ByteArray) := some (([(⟨#[117, 115, 45, 97, 115, 99, 105, 105]⟩ : ByteArray), (⟨#[105, 115, 111, 45, 56, 56, 53, 57, 45, 49]⟩ : ByteArray), (⟨#[105, 115, 111, 45, 56, 56, 53, 57, 45, 53]⟩ : ByteArray), (⟨#[117, 116, 102, 45, 56]⟩ : ByteArray), (⟨#[117, 116, 102, 45, 49, 54]⟩ : ByteArray)] : List ByteArray))
set_option maxHeartbeats 8000000 in
set_option maxRecDepth 100000 in
theorem impl_charsets.calls  (r : List ByteArray) (w : World) (h : impl_charsets.f  = some r) :
  Calls Tryd.prog 88 #[] w fun e w' => ∃ v0_ : Value, e = .returned (v0_) ∧ Kd.R Kd.string 9 w' w.heap.size (fun _ => True) v0_ r ∧ Below w.heap.size w w' := by
 have HB := Aside0.mk (Below.refl w.heap.size w)
 have H : (some (([(⟨#[117, 115, 45, 97, 115, 99, 105, 105]⟩ : ByteArray), (⟨#[105, 115, 111, 45, 56, 56, 53, 57, 45, 49]⟩ : ByteArray), (⟨#[105, 115, 111, 45, 56, 56, 53, 57, 45, 53]⟩ : ByteArray), (⟨#[117, 116, 102, 45, 56]⟩ : ByteArray), (⟨#[117, 116, 102, 45, 49, 54]⟩ : ByteArray)] : List ByteArray))) = some r := h
 clear h
 obtain ⟨y277, hy277⟩ : ∃ y_ : List ByteArray, y_ = (([(⟨#[117, 115, 45, 97, 115, 99, 105, 105]⟩ : ByteArray), (⟨#[105, 115, 111, 45, 56, 56, 53, 57, 45, 49]⟩ : ByteArray), (⟨#[105, 115, 111, 45, 56, 56, 53, 57, 45, 53]⟩ : ByteArray), (⟨#[117, 116, 102, 45, 56]⟩ : ByteArray), (⟨#[117, 116, 102, 45, 49, 54]⟩ : ByteArray)] : List ByteArray)) := ⟨_, rfl⟩
 replace H : (some y277) = some r := z0 hy277
 have Ny277 := Aside0.mk hy277
 clear hy277
 obtain rfl := Option.some.inj H
 go_enter Tryd.func88, Tryd.ntmps88
 go_wp2_with (first | ((with_reducible refine gate_dst (N := 1) rfl ?_); refine Kd.R_lit Kd.string _ 9 ?hg (N := 1) ?hd (xs := ([(⟨#[117, 115, 45, 97, 115, 99, 105, 105]⟩ : ByteArray), (⟨#[105, 115, 111, 45, 56, 56, 53, 57, 45, 49]⟩ : ByteArray), (⟨#[105, 115, 111, 45, 56, 56, 53, 57, 45, 53]⟩ : ByteArray), (⟨#[117, 116, 102, 45, 56]⟩ : ByteArray), (⟨#[117, 116, 102, 45, 49, 54]⟩ : ByteArray)] : List ByteArray)) (inner := [.string (⟨#[117, 115, 45, 97, 115, 99, 105, 105]⟩ : ByteArray), .string (⟨#[105, 115, 111, 45, 56, 56, 53, 57, 45, 49]⟩ : ByteArray), .string (⟨#[105, 115, 111, 45, 56, 56, 53, 57, 45, 53]⟩ : ByteArray), .string (⟨#[117, 116, 102, 45, 56]⟩ : ByteArray), .string (⟨#[117, 116, 102, 45, 49, 54]⟩ : ByteArray)]) (ok := fun _ => True) (okp := fun _ => True) ?hr ?hp (fun _ hk => hk) trivial (Below.refl _ _) (Nat.le_refl _) (by simp) ?_; (case hd => rfl); (case hg => rfl); (case hr => exact z11); (case hp => exact (Reps.one (show Kd.M Kd.string _ _ _ (⟨#[117, 115, 45, 97, 115, 99, 105, 105]⟩ : ByteArray) [.string (⟨#[117, 115, 45, 97, 115, 99, 105, 105]⟩ : ByteArray)] from rfl) (Reps.one (show Kd.M Kd.string _ _ _ (⟨#[105, 115, 111, 45, 56, 56, 53, 57, 45, 49]⟩ : ByteArray) [.string (⟨#[105, 115, 111, 45, 56, 56, 53, 57, 45, 49]⟩ : ByteArray)] from rfl) (Reps.one (show Kd.M Kd.string _ _ _ (⟨#[105, 115, 111, 45, 56, 56, 53, 57, 45, 53]⟩ : ByteArray) [.string (⟨#[105, 115, 111, 45, 56, 56, 53, 57, 45, 53]⟩ : ByteArray)] from rfl) (Reps.one (show Kd.M Kd.string _ _ _ (⟨#[117, 116, 102, 45, 56]⟩ : ByteArray) [.string (⟨#[117, 116, 102, 45, 56]⟩ : ByteArray)] from rfl) (Reps.one (show Kd.M Kd.string _ _ _ (⟨#[117, 116, 102, 45, 49, 54]⟩ : ByteArray) [.string (⟨#[117, 116, 102, 45, 49, 54]⟩ : ByteArray)] from rfl) (Reps.none _ _))))))); intro v278 w1 ho2 hb hg_ hnew_; clear hg_ hnew_; (first | rw [← Ny277.out] at ho2 | (simp only [Int.reduceToNat] at ho2; rw [← Ny277.out] at ho2)); have HO279 := Aside0.mk (Kd.R_lower ho2 (below_size bB)); replace HB := Aside0.mk (below_step bB hb); clear hb ho2))
 go_ret
 exact ⟨_, bE, bR HO279, bB⟩
def impl_small.l0 : Nat → List Int → Int → Int → Option (ByteArray)
 | 0, _, _, _ => none
 | k + 1, x3, x9, x10 => if x10 < x9 then (if 0 ≤ x10 then (if x10 < (x3.length : Int) then (if (rd x3 x10) ≥ 65 then (if (rd x3 x10) ≤ 90 then (impl_small.l0 k (x3.set (x10 : Int).toNat (((rd x3 x10) + 32) % 256)) x9 (wrap64 (x10 + 1))) else (impl_small.l0 k x3 x9 (wrap64 (x10 + 1)))) else (impl_small.l0 k x3 x9 (wrap64 (x10 + 1)))) else (none)) else (none)) else (some (strOfNums x3))
def impl_small.f (k : Nat) (a0 : ByteArray) : Option (ByteArray) := if a0.size ≤ 281474976710656 then ((some (bytesOf a0 : List Int)).bind fun y280 => (impl_small.l0 k y280 (y280.length : Int) 0)) else (none)
theorem impl_small.mono_l : ∀ k, (∀ y0 y1 y2, LeO (impl_small.l0 k y0 y1 y2) (impl_small.l0 (k + 1) y0 y1 y2))
 | 0 => fun _ _ _ r h => by simp [impl_small.l0] at h
 | k + 1 => by
  have ih0 := impl_small.mono_l k
  ·intro y0 y1 y2
   unfold impl_small.l0
   repeat' first
   | (with_reducible exact ih0 _ _ _)
   | (with_reducible exact LeO.refl _)
   | (with_reducible exact LeO.none _)
   | (with_reducible refine LeO.ite ?_ ?_)
   | (with_reducible refine LeO.bind ?_ (fun _ => ?_))
   | exact ih0 _ _ _
   | exact LeO.none _
   | refine LeO.ite ?_ ?_
   | refine LeO.bind ?_ (fun _ => ?_)
theorem impl_small.mono : ∀ a0 k, LeO (impl_small.f k a0) (impl_small.f (k + 1) a0) := by
 intro a0 k
 have ih0 := impl_small.mono_l k
 unfold impl_small.f
 repeat' first
   | (with_reducible exact ih0 _ _ _)
   | (with_reducible exact LeO.refl _)
   | (with_reducible exact LeO.none _)
   | (with_reducible refine LeO.ite ?_ ?_)
   | (with_reducible refine LeO.bind ?_ (fun _ => ?_))
   | exact ih0 _ _ _
   | exact LeO.none _
   | refine LeO.ite ?_ ?_
   | refine LeO.bind ?_ (fun _ => ?_)
set_option maxHeartbeats 8000000 in
set_option maxRecDepth 100000 in
theorem impl_small.calls (k : Nat) (a0 : ByteArray) (r : ByteArray) (w : World) (h : impl_small.f k a0 = some r) :
  Calls Tryd.prog 89 #[.string a0] w fun e w' => e = .returned (.string r) ∧ Below w.heap.size w w' := by
 have HB := Aside0.mk (Below.refl w.heap.size w)
 have H : (if a0.size ≤ 281474976710656 then ((some (bytesOf a0 : List Int)).bind fun y280 => (impl_small.l0 k y280 (y280.length : Int) 0)) else (none)) = some r := h
 clear h
 by_cases c2 : a0.size ≤ 281474976710656
 ·rw [if_pos c2] at H
  have c2b0 := eq_true c2
  have c2b1 : decide (a0.size ≤ 281474976710656) = true := decide_eq_true c2
  clear c2
  obtain ⟨y280, hy280⟩ : ∃ y_ : List Int, y_ = (bytesOf a0) := ⟨_, rfl⟩
  replace H : (impl_small.l0 k y280 (y280.length : Int) 0) = some r := z0 hy280
  have Ny280 := Aside0.mk hy280
  clear hy280
  have H' := Aside0.mk H
  clear H
  go_enter Tryd.func89, Tryd.ntmps89
  go_wp2_with (first | ((with_reducible refine gate_dst (N := 7) rfl ?_); refine Kd.R_conv _ 5 rfl (N := 7) rfl 9 22 _ rfl a0 rfl Tryd.underlying9 Tryd.underlying22 Tryd.underlying5 (ok := fun _ => True) trivial (pI) (Below.refl _ _) (Nat.le_refl _) ?_; intro v281 w3 ho4 hb hg_ hnew_; clear hg_ hnew_; (first | rw [← Ny280.out] at ho4 | (simp only [Int.reduceToNat] at ho4; rw [← Ny280.out] at ho4)); have HO282 := Aside0.mk (Kd.R_lower ho4 (below_size bB)); replace HB := Aside0.mk (below_step bB hb); clear hb ho4; obtain ⟨Ao5, co5, eo5⟩ := Kd.R_slice HO282.out; subst eo5))
  go_loopg [10] k (fun kq v10 w' => ∃ (x3_1 : List Int) (x10_1 : Int), v10 = .int .i64 x10_1 ∧ Aside0 (impl_small.l0 kq x3_1 (y280.length : Int) x10_1 = some r) ∧ Aside0 (kq ≤ k) ∧ Aside0 (Kd.R (Kd.int .u8) 5 w' w.heap.size (fun _ => True) (.slice Ao5 y280.length co5) x3_1) ∧ Aside0 (Below w.heap.size w w'))
  case atStart => exact ⟨(y280), (0), bS, H', ⟨Nat.le_refl _⟩, ⟨bR HO282⟩, ⟨bB⟩⟩
  case round =>
   clear H'
   try clear c2
   try clear c2b0
   try clear c2b1
   try clear p2
   obtain ⟨x3_1, x10_1, rfl, HA, HK1, HO_3, HB⟩ := hrel
   have hl3_1 := (Kd.R_reads' HO_3.out).1
   rw [hl3_1] at HO_3
   (try simp only [hl3_1])
   cases gk with
   | zero => exact absurd HA.out (by simp [impl_small.l0])
   | succ k1 =>
    have H := HA.out
    clear HA
    simp only [impl_small.l0] at H
    by_cases c6 : x10_1 < (y280.length : Int)
    ·rw [if_pos c6] at H
     have c6b0 : decide (x10_1 < (y280.length : Int)) = true := decide_eq_true c6
     (try simp only [hl3_1] at c6b0)
     clear c6
     by_cases c7 : 0 ≤ x10_1
     ·rw [if_pos c7] at H
      have c7b0 : decide (0 ≤ x10_1) = true := decide_eq_true c7
      (try simp only [hl3_1] at c7b0)
      clear c7
      by_cases c8 : x10_1 < (x3_1.length : Int)
      ·rw [if_pos c8] at H
       have c8b0 : decide (x10_1 < (x3_1.length : Int)) = true := decide_eq_true c8
       (try simp only [hl3_1] at c8b0)
       clear c8
       by_cases c9 : (rd x3_1 x10_1) ≥ 65
       ·rw [if_pos c9] at H
        have c9b0 : decide (65 ≤ (rd x3_1 x10_1)) = true := decide_eq_true c9
        (try simp only [hl3_1] at c9b0)
        clear c9
        by_cases c10 : (rd x3_1 x10_1) ≤ 90
        ·rw [if_pos c10] at H
         have c10b0 : decide ((rd x3_1 x10_1) ≤ 90) = true := decide_eq_true c10
         (try simp only [hl3_1] at c10b0)
         clear c10
         obtain ⟨y284, hy284⟩ : ∃ y_ : List Int, y_ = (x3_1.set (x10_1 : Int).toNat (((rd x3_1 x10_1) + 32) % 256)) := ⟨_, rfl⟩
         replace H : (impl_small.l0 k1 y284 (y280.length : Int) (wrap64 (x10_1 + 1))) = some r := z0 hy284
         have Ny284 := Aside0.mk hy284
         clear hy284
         have H' := Aside0.mk H
         clear H
         have p283 : 0 ≤ (x10_1 : Int) := pI
         have q283 : x10_1 < (x3_1.length : Int) := pI
         obtain ⟨ad283, e283, hx283_0⟩ := Kd.at_int (Kd.R_reads' HO_3.out).2.2 x10_1 p283 q283
         cases e283
         replace p283 := eq_true p283
         replace q283 := eq_true q283
         have p11 : 0 ≤ (x10_1 : Int) := pI
         have q11 : (x10_1 : Int) < ((x3_1.length : Int) : Int) := pI
         obtain ⟨go11, co11, eo11, gb11, gl11, cl11, HG11⟩ := Kd.R_form HO_3.out (by omega)
         (first | cases eo11 | (injection eo11 with ea_ en_ ec_; (first | subst ea_ | (injection ea_ with ea_; subst ea_)); subst ec_; clear en_))
         have GB11 := Aside0.mk gb11
         have GG11 := Aside0.mk HG11
         clear gb11 gl11 HG11
         (first | simp only [add_plain] at hx283_0 | skip)
         obtain ⟨hx11_0, hf11_0⟩ := Kd.R_celln 0 HO_3.out (x10_1 : Int) p11 q11
         replace p11 := eq_true p11
         replace q11 := eq_true q11
         have HP12 := Kd.R_putg HO_3.out (x10_1 : Int) (((rd x3_1 x10_1) + 32) % 256)
         go_wp2_with (first | ((with_reducible refine gate_store (t := 5) (p := 25) rfl ?_); refine store_event (t := 5) (p := 25) (v := ?vo_w13) (w1 := (wr.setCell ⟨go11, (x10_1 : Int).toNat, none⟩ (.int .u8 (((rd x3_1 x10_1) + 32) % 256)))) ?hg ?ho ?hn ?hr ?_; (case ho => rfl); (case hg => rfl); (case hn => rfl); (case hr => exact z11); intro w13 hw; have hg : wr.grownBy w13 (some go11) := (by rw [hw]; exact HP12.2); have hp_ : Kd.R (Kd.int .u8) 5 w13 w.heap.size (fun _ => True) (.slice (some ⟨go11, 0, none⟩) x3_1.length co5) y284 := (by rw [hw, Ny284.out]; exact HP12.1); clear HP12; replace HO_3 := Aside0.mk (hp_); replace HB := Aside0.mk ((z79 GB11.out : Below w.heap.size w w13)); clear hg hw hp_))
         (try simp only [← hl3_1])
         go_roundg k1
         case measure => have := HK1.out; omega
         case rel => exact ⟨(y284), (wrap64 (x10_1 + 1)), bS, H', ⟨by have := HK1.out; omega⟩, ⟨z72 HO_3.out⟩, ⟨bB⟩⟩
        ·rw [if_neg c10] at H
         have c10b0 : decide ((rd x3_1 x10_1) ≤ 90) = false := decide_eq_false c10
         (try simp only [hl3_1] at c10b0)
         clear c10
         have H' := Aside0.mk H
         clear H
         have p283 : 0 ≤ (x10_1 : Int) := pI
         have q283 : x10_1 < (x3_1.length : Int) := pI
         obtain ⟨ad283, e283, hx283_0⟩ := Kd.at_int (Kd.R_reads' HO_3.out).2.2 x10_1 p283 q283
         cases e283
         replace p283 := eq_true p283
         replace q283 := eq_true q283
         go_wp2
         (try simp only [← hl3_1])
         go_roundg k1
         case measure => have := HK1.out; omega
         case rel => exact ⟨(x3_1), (wrap64 (x10_1 + 1)), bS, H', ⟨by have := HK1.out; omega⟩, ⟨z72 HO_3.out⟩, ⟨bB⟩⟩
       ·rw [if_neg c9] at H
        have c9b0 : decide (65 ≤ (rd x3_1 x10_1)) = false := decide_eq_false c9
        (try simp only [hl3_1] at c9b0)
        clear c9
        have H' := Aside0.mk H
        clear H
        have p283 : 0 ≤ (x10_1 : Int) := pI
        have q283 : x10_1 < (x3_1.length : Int) := pI
        obtain ⟨ad283, e283, hx283_0⟩ := Kd.at_int (Kd.R_reads' HO_3.out).2.2 x10_1 p283 q283
        cases e283
        replace p283 := eq_true p283
        replace q283 := eq_true q283
        go_wp2
        (try simp only [← hl3_1])
        go_roundg k1
        case measure => have := HK1.out; omega
        case rel => exact ⟨(x3_1), (wrap64 (x10_1 + 1)), bS, H', ⟨by have := HK1.out; omega⟩, ⟨z72 HO_3.out⟩, ⟨bB⟩⟩
      ·rw [if_neg c8] at H
       exact absurd H (by simp)
     ·rw [if_neg c7] at H
      exact absurd H (by simp)
    ·rw [if_neg c6] at H
     have c6b0 : decide (x10_1 < (y280.length : Int)) = false := decide_eq_false c6
     (try simp only [hl3_1] at c6b0)
     clear c6
     obtain rfl := Option.some.inj H
     have hcv14 := own_string (P := Tryd.prog) Tryd.underlying22 Tryd.underlying5 Tryd.underlying9 (Kd.own_of_R HO_3.out); (try have hcv14d := fun nq_ : Nat => own_string (P := Tryd.prog) Tryd.underlying22 Tryd.underlying5 Tryd.underlying9 (Kd.own_of_R (Kd.R_drewN HO_3.out nq_)))
     go_wp2
     go_ret
     exact ⟨bE, bB⟩
 ·rw [if_neg c2] at H
  exact absurd H (by simp)
def impl_CharsetOf.f (k : Nat) (a0 : ByteArray) : Option (Int × Int) := (impl_charsets.f).bind fun t286 => ((impl_small.f k a0).bind fun t289 => ((slices_Index_string_string.f k t286 t289).bind fun t290 => (if t290 < 0 then (some (4, 0)) else (some (0, wrap64 (t290 + 1))))))
theorem impl_CharsetOf.mono : ∀ a0 k, LeO (impl_CharsetOf.f k a0) (impl_CharsetOf.f (k + 1) a0) := by
 intro a0 k
 unfold impl_CharsetOf.f
 repeat' first
   | (with_reducible exact impl_small.mono _ _)
   | (with_reducible exact slices_Index_string_string.mono _ _ _)
   | (with_reducible exact LeO.refl _)
   | (with_reducible exact LeO.none _)
   | (with_reducible refine LeO.ite ?_ ?_)
   | (with_reducible refine LeO.bind ?_ (fun _ => ?_))
   | exact impl_small.mono _ _
   | exact slices_Index_string_string.mono _ _ _
   | exact LeO.none _
   | refine LeO.ite ?_ ?_
   | refine LeO.bind ?_ (fun _ => ?_)
set_option maxHeartbeats 8000000 in
set_option maxRecDepth 100000 in
theorem impl_CharsetOf.calls (k : Nat) (a0 : ByteArray) (r1 : Int) (r2 : Int) (w : World) (h : impl_CharsetOf.f k a0 = some (r1, r2)) :
  Calls Tryd.prog 67 #[.string a0] w fun e w' => e = .returned (.agg #[.int .i64 r1, .int .i64 r2]) ∧ Below w.heap.size w w' := by
 have hu33 := Tryd.underlying33
 have HB := Aside0.mk (Below.refl w.heap.size w)
 have H : ((impl_charsets.f).bind fun t286 => ((impl_small.f k a0).bind fun t289 => ((slices_Index_string_string.f k t286 t289).bind fun t290 => (if t290 < 0 then (some (4, 0)) else (some (0, wrap64 (t290 + 1))))))) = some (r1, r2) := h
 clear h
 replace H := Option.bind_eq_some_iff.mp H
 obtain ⟨t286, A20, H⟩ := H
 replace H : ((impl_small.f k a0).bind fun t289 => ((slices_Index_string_string.f k t286 t289).bind fun t290 => (if t290 < 0 then (some (4, 0)) else (some (0, wrap64 (t290 + 1)))))) = some (r1, r2) := H
 have A2 := Aside0.mk A20
 clear A20
 replace H := Option.bind_eq_some_iff.mp H
 obtain ⟨t289, A30, H⟩ := H
 replace H : ((slices_Index_string_string.f k t286 t289).bind fun t290 => (if t290 < 0 then (some (4, 0)) else (some (0, wrap64 (t290 + 1))))) = some (r1, r2) := H
 have A3 := Aside0.mk A30
 clear A30
 replace H := Option.bind_eq_some_iff.mp H
 obtain ⟨t290, A40, H⟩ := H
 replace H : (if t290 < 0 then (some (4, 0)) else (some (0, wrap64 (t290 + 1)))) = some (r1, r2) := H
 have A4 := Aside0.mk A40
 clear A40
 by_cases c5 : t290 < 0
 ·rw [if_pos c5] at H
  have c5b0 : decide (t290 < 0) = true := decide_eq_true c5
  clear c5
  simp only [Option.some.injEq, Prod.mk.injEq] at H
  obtain ⟨rfl, rfl⟩ := H
  go_enter Tryd.func67, Tryd.ntmps67
  go_wp2_with (first | ((with_reducible refine gate_dst (N := 2) rfl ?_); refine box_event ?hg (N := 2) ?hd (cs := #[.int .i64 0, .int .i64 0]) (t := 33) ?hr ?_; (case hd => rfl); (case hg => rfl); (case hr => exact z11); intro gb285 hg w6 hbox hb; have BK285 := Aside0.mk (hbox); have GW285 := Aside0.mk ((z18 : w.heap.size ≤ gb285)); have GE285 := Aside0.mk ((z18 : w.heap.size ≤ gb285)); replace HB := Aside0.mk (below_step bB hb); clear hb hbox hg) | ((with_reducible refine gate_callee (f := 88) rfl ?_); refine goesL_ (some 4) rfl rfl Tryd.func88 (by kernel_rfl) rfl #[] rfl bM ?_; (with_reducible refine (impl_charsets.calls  t286 _ A2.out).mono ?_); rintro e w7 ⟨v287, rfl, ho0, hb⟩; refine ⟨_, rfl, ?_⟩; have HO288 := Aside0.mk (Kd.R_lower ho0 (below_size (bG GE285))); replace BK285 := Aside0.mk (blk_below (g := gb285) (o := .cells #[.int .i64 0, .int .i64 0] 33 (0, 0)) (bL BK285) hb); replace HB := Aside0.mk (below_step (bG GE285) hb); (try clear ho0)) | ((with_reducible refine gate_callee (f := 89) rfl ?_); refine goesL_ (some 6) rfl rfl Tryd.func89 (by kernel_rfl) rfl #[.string a0] rfl bM ?_; (with_reducible refine (impl_small.calls k a0 t289 _ A3.out).mono ?_); rintro e w8 ⟨rfl, hb⟩; refine ⟨_, rfl, ?_⟩; replace HO288 := Aside0.mk (Kd.R_below (bR HO288) hb); replace BK285 := Aside0.mk (blk_below (g := gb285) (o := .cells #[.int .i64 0, .int .i64 0] 33 (0, 0)) (bL BK285) hb); replace HB := Aside0.mk (below_step (bG GE285) hb); obtain ⟨Ao9, co9, eo9⟩ := Kd.R_slice HO288.out; subst eo9) | ((with_reducible refine gate_callee (f := 87) rfl ?_); refine goesL_ (some 7) rfl rfl Tryd.func87 (by kernel_rfl) rfl #[.slice Ao9 t286.length co9, .string t289] rfl bM ?_; (with_reducible refine (slices_Index_string_string.calls k _ _ t286 t289 t290 _ ?side1 ?side2 A4.out).mono ?_); (case side1 => exact z3 HO288.out); (case side2 => exact (Kd.R_reads' HO288.out).2.1); rintro e w' ⟨rfl, ⟨nd, rfl⟩⟩; refine ⟨_, rfl, ?_⟩; (try (rw [drewN_self w8]; generalize hq_ : World.drewN w8 _ = w8; have n0_ : Aside0 (Kd.R Kd.string 9 w8 w.heap.size (fun _ => True) (.slice Ao9 t286.length co9) t286) := ⟨by rw [← hq_]; exact (bR HO288)⟩; have n1_ : Aside0 (w8.heap[gb285]? = some (.cells #[.int .i64 0, .int .i64 0] 33 (0, 0))) := ⟨by rw [← hq_]; exact (bL BK285)⟩; have n2_ : Aside0 (Below w.heap.size w w8) := ⟨by rw [← hq_]; exact (bG GE285)⟩; clear HO288 BK285 HB hq_; have HO288 := n0_; have BK285 := n1_; have HB := n2_; clear n0_ n1_ n2_)); have hcz10_0 : w8.cell? ⟨gb285, 0, none⟩ = some (.int .i64 0) := (blk_cell BK285.out 0).trans rfl; have hcz10_1 : w8.cell? ⟨gb285, 1, none⟩ = some (.int .i64 0) := (blk_cell BK285.out 1).trans rfl; have hfz10_0 := blk_frozen BK285.out 0; have hfz10_1 := blk_frozen BK285.out 1))
  refine bodyPost_ret (results_cell_row rfl _ _ gb285 33 #[.int .i64 4, .int .i64 0] (0, 0) _ rfl (by (with_reducible repeat (first | refine blk_drewN ?_ _ | refine blk_drew ?_ | refine blk_alloc ?_ _)); refine blk_put (cs := #[.int .i64 4, .int .i64 0]) ?_ 1 _ rfl; (with_reducible repeat (first | refine blk_drewN ?_ _ | refine blk_drew ?_ | refine blk_alloc ?_ _)); refine blk_put (cs := #[.int .i64 0, .int .i64 0]) ?_ 0 _ rfl; (with_reducible repeat (first | refine blk_drewN ?_ _ | refine blk_drew ?_ | refine blk_alloc ?_ _)); exact BK285.out) Tryd.underlying33 rfl (by kernel_rfl)) rfl ?_
  exact ⟨bE, bG GE285⟩
 ·rw [if_neg c5] at H
  have c5b0 : decide (t290 < 0) = false := decide_eq_false c5
  clear c5
  simp only [Option.some.injEq, Prod.mk.injEq] at H
  obtain ⟨rfl, rfl⟩ := H
  go_enter Tryd.func67, Tryd.ntmps67
  go_wp2_with (first | ((with_reducible refine gate_dst (N := 2) rfl ?_); refine box_event ?hg (N := 2) ?hd (cs := #[.int .i64 0, .int .i64 0]) (t := 33) ?hr ?_; (case hd => rfl); (case hg => rfl); (case hr => exact z11); intro gb285 hg w11 hbox hb; have BK285 := Aside0.mk (hbox); have GW285 := Aside0.mk ((z18 : w.heap.size ≤ gb285)); have GE285 := Aside0.mk ((z18 : w.heap.size ≤ gb285)); replace HB := Aside0.mk (below_step bB hb); clear hb hbox hg) | ((with_reducible refine gate_callee (f := 88) rfl ?_); refine goesL_ (some 4) rfl rfl Tryd.func88 (by kernel_rfl) rfl #[] rfl bM ?_; (with_reducible refine (impl_charsets.calls  t286 _ A2.out).mono ?_); rintro e w12 ⟨v287, rfl, ho0, hb⟩; refine ⟨_, rfl, ?_⟩; have HO288 := Aside0.mk (Kd.R_lower ho0 (below_size (bG GE285))); replace BK285 := Aside0.mk (blk_below (g := gb285) (o := .cells #[.int .i64 0, .int .i64 0] 33 (0, 0)) (bL BK285) hb); replace HB := Aside0.mk (below_step (bG GE285) hb); (try clear ho0)) | ((with_reducible refine gate_callee (f := 89) rfl ?_); refine goesL_ (some 6) rfl rfl Tryd.func89 (by kernel_rfl) rfl #[.string a0] rfl bM ?_; (with_reducible refine (impl_small.calls k a0 t289 _ A3.out).mono ?_); rintro e w13 ⟨rfl, hb⟩; refine ⟨_, rfl, ?_⟩; replace HO288 := Aside0.mk (Kd.R_below (bR HO288) hb); replace BK285 := Aside0.mk (blk_below (g := gb285) (o := .cells #[.int .i64 0, .int .i64 0] 33 (0, 0)) (bL BK285) hb); replace HB := Aside0.mk (below_step (bG GE285) hb); obtain ⟨Ao14, co14, eo14⟩ := Kd.R_slice HO288.out; subst eo14) | ((with_reducible refine gate_callee (f := 87) rfl ?_); refine goesL_ (some 7) rfl rfl Tryd.func87 (by kernel_rfl) rfl #[.slice Ao14 t286.length co14, .string t289] rfl bM ?_; (with_reducible refine (slices_Index_string_string.calls k _ _ t286 t289 t290 _ ?side1 ?side2 A4.out).mono ?_); (case side1 => exact z3 HO288.out); (case side2 => exact (Kd.R_reads' HO288.out).2.1); rintro e w' ⟨rfl, ⟨nd, rfl⟩⟩; refine ⟨_, rfl, ?_⟩; (try (rw [drewN_self w13]; generalize hq_ : World.drewN w13 _ = w13; have n0_ : Aside0 (Kd.R Kd.string 9 w13 w.heap.size (fun _ => True) (.slice Ao14 t286.length co14) t286) := ⟨by rw [← hq_]; exact (bR HO288)⟩; have n1_ : Aside0 (w13.heap[gb285]? = some (.cells #[.int .i64 0, .int .i64 0] 33 (0, 0))) := ⟨by rw [← hq_]; exact (bL BK285)⟩; have n2_ : Aside0 (Below w.heap.size w w13) := ⟨by rw [← hq_]; exact (bG GE285)⟩; clear HO288 BK285 HB hq_; have HO288 := n0_; have BK285 := n1_; have HB := n2_; clear n0_ n1_ n2_)); have hcz15_0 : w13.cell? ⟨gb285, 0, none⟩ = some (.int .i64 0) := (blk_cell BK285.out 0).trans rfl; have hcz15_1 : w13.cell? ⟨gb285, 1, none⟩ = some (.int .i64 0) := (blk_cell BK285.out 1).trans rfl; have hfz15_0 := blk_frozen BK285.out 0; have hfz15_1 := blk_frozen BK285.out 1))
  refine bodyPost_ret (results_cell_row rfl _ _ gb285 33 #[.int .i64 0, .int .i64 (wrap64 (t290 + 1))] (0, 0) _ rfl (by (with_reducible repeat (first | refine blk_drewN ?_ _ | refine blk_drew ?_ | refine blk_alloc ?_ _)); refine blk_put (cs := #[.int .i64 0, .int .i64 0]) ?_ 1 _ rfl; (with_reducible repeat (first | refine blk_drewN ?_ _ | refine blk_drew ?_ | refine blk_alloc ?_ _)); refine blk_put (cs := #[.int .i64 0, .int .i64 0]) ?_ 0 _ rfl; (with_reducible repeat (first | refine blk_drewN ?_ _ | refine blk_drew ?_ | refine blk_alloc ?_ _)); exact BK285.out) Tryd.underlying33 rfl (by kernel_rfl)) rfl ?_
  exact ⟨bE, bG GE285⟩
def impl_isSeen.f (a0 : Int) : Option (Bool) := if a0 ≥ 33 then (if a0 ≤ 126 then (some (a0 != 61)) else (some false)) else (some false)
set_option maxHeartbeats 8000000 in
set_option maxRecDepth 100000 in
theorem impl_isSeen.calls (a0 : Int) (r : Bool) (w : World) (h : impl_isSeen.f a0 = some r) :
  Calls Tryd.prog 90 #[.int .u8 a0] w fun e w' => e = .returned (.bool r) ∧ Drawn0 w w' := by
 have H : (if a0 ≥ 33 then (if a0 ≤ 126 then (some (a0 != 61)) else (some false)) else (some false)) = some r := h
 clear h
 by_cases c2 : a0 ≥ 33
 ·rw [if_pos c2] at H
  have c2b0 : decide (33 ≤ a0) = true := decide_eq_true c2
  clear c2
  by_cases c3 : a0 ≤ 126
  ·rw [if_pos c3] at H
   have c3b0 : decide (a0 ≤ 126) = true := decide_eq_true c3
   clear c3
   obtain rfl := Option.some.inj H
   go_enter Tryd.func90, Tryd.ntmps90
   go_wp2
   go_ret
   exact ⟨bS, z2⟩
  ·rw [if_neg c3] at H
   have c3b0 : decide (a0 ≤ 126) = false := decide_eq_false c3
   clear c3
   obtain rfl := Option.some.inj H
   go_enter Tryd.func90, Tryd.ntmps90
   go_wp2
   go_ret
   exact ⟨bS, z2⟩
 ·rw [if_neg c2] at H
  have c2b0 : decide (33 ≤ a0) = false := decide_eq_false c2
  clear c2
  obtain rfl := Option.some.inj H
  go_enter Tryd.func90, Tryd.ntmps90
  go_wp2
  go_ret
  exact ⟨bS, z2⟩
end Go.Proofs.YtjopgmjmjnfcjaaDoor.PDecodeWords
