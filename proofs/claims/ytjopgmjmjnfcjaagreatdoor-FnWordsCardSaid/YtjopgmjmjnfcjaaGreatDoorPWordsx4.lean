/- Part of the proof; words that it uses. -/
import Derived.Test.YtjopgmjmjnfcjaaGreatDoorPWordsx0
namespace Go.Proofs.YtjopgmjmjnfcjaaGreatDoor.PWords
open Go.RowKit Go.Proofs.YtjopgmjmjnfcjaaGreatDoorW.PrintWords Go.Proofs.YtjopgmjmjnfcjaaGreatDoorW.PrintLast
set_option linter.unusedVariables false
set_option linter.unusedSimpArgs false
def impl_baseText.val (a b c : Int) : Int := Go.bits .or .i64 (Go.bits .or .i64 (wrap64 (a * 65536)) (wrap64 (b * 256))) c
def impl_baseText.dg (v : Int) : Int := bt (⟨#[65, 66, 67, 68, 69, 70, 71, 72, 73, 74, 75, 76, 77, 78, 79, 80, 81, 82, 83, 84, 85, 86, 87, 88, 89, 90, 97, 98, 99, 100, 101, 102, 103, 104, 105, 106, 107, 108, 109, 110, 111, 112, 113, 114, 115, 116, 117, 118, 119, 120, 121, 122, 48, 49, 50, 51, 52, 53, 54, 55, 56, 57, 43, 47]⟩ : ByteArray) v
def impl_baseText.q : List Int → List Int
  | [] => []
  | [a] => [impl_baseText.dg (a / 4 % 64), impl_baseText.dg (a % 4 * 16), 61, 61]
  | [a, b] => [impl_baseText.dg (a / 4 % 64), impl_baseText.dg (a % 4 * 16 + b / 16), impl_baseText.dg (b % 16 * 4), 61]
  | a :: b :: c :: rest => impl_baseText.dg (a / 4 % 64) :: impl_baseText.dg (a % 4 * 16 + b / 16) :: impl_baseText.dg (b % 16 * 4 + c / 64) :: impl_baseText.dg (c % 64) :: impl_baseText.q rest
def impl_baseText.f (l0 : List Int) : Option ByteArray := if l0.length ≤ 1000000 ∧ l0.all (fun x => decide (0 ≤ x ∧ x ≤ 255)) = true then some (strOfNums (impl_baseText.q l0)) else none
theorem impl_baseText.wraps (n : Int) (h0 : 0 ≤ n) (h1 : n < 2 ^ 24) : IntKind.i64.wrap n = n := by
  have : (2 : Int) ^ 24 = 16777216 := by decide
  rw [IntKind.wrap_i64]
  omega
theorem impl_baseText.val_eq (a b c : Int) (ha : 0 ≤ a ∧ a ≤ 255) (hb : 0 ≤ b ∧ b ≤ 255) (hc : 0 ≤ c ∧ c ≤ 255) : Go.bits .or .i64 (Go.bits .or .i64 (wrap64 (wrap64 a * 65536)) (wrap64 (wrap64 b * 256))) (wrap64 c) = a * 65536 + b * 256 + c := by
  have w : ∀ n : Int, 0 ≤ n → n ≤ 16777215 → wrap64 n = n := fun n h1 h2 => by unfold wrap64; omega
  rw [w a (by omega) (by omega), w b (by omega) (by omega), w c (by omega) (by omega), w (a * 65536) (by omega) (by omega), w (b * 256) (by omega) (by omega)]
  have p24 : (2 : Int) ^ 24 = 16777216 := by decide
  have p16 : (2 : Int) ^ 16 = 65536 := by decide
  have p8 : (2 : Int) ^ 8 = 256 := by decide
  rw [bits_join .i64 24 (by decide) impl_baseText.wraps 16 (a * 65536) (b * 256) (by omega) (by omega) (by omega) (by omega) (by omega) (by omega), bits_join .i64 24 (by decide) impl_baseText.wraps 8 (a * 65536 + b * 256) c (by omega) (by omega) (by omega) (by omega) (by omega) (by omega)]
theorem impl_baseText.val_eq2 (a b c : Int) (ha : 0 ≤ a ∧ a ≤ 255) (hb : 0 ≤ b ∧ b ≤ 255) (hc : 0 ≤ c ∧ c ≤ 255) : Go.bits .or .i64 (Go.bits .or .i64 (a * 65536) (b * 256)) c = a * 65536 + b * 256 + c := by
  have w : ∀ n : Int, 0 ≤ n → n ≤ 16777215 → wrap64 n = n := fun n h1 h2 => by unfold wrap64; omega
  have := impl_baseText.val_eq a b c ha hb hc
  rwa [w a (by omega) (by omega), w b (by omega) (by omega), w c (by omega) (by omega), w (a * 65536) (by omega) (by omega), w (b * 256) (by omega) (by omega)] at this
theorem impl_baseText.and63 (x : Int) (h : 0 ≤ x ∧ x ≤ 16777215) : Go.bits .and .i64 x 63 = x % 64 := by
  have p24 : (2 : Int) ^ 24 = 16777216 := by decide
  have := bits_mask .i64 24 (by decide) impl_baseText.wraps 6 (by decide) x h.1 (by omega)
  simpa using this
def impl_baseText.dk (n : Nat) (V : Int) (k : Nat) : Int := if n < k then 61 else impl_baseText.dg (V / 2 ^ (18 - 6 * k) % 64)
def impl_baseText.four (n : Nat) (V : Int) : List Int := [impl_baseText.dk n V 0, impl_baseText.dk n V 1, impl_baseText.dk n V 2, impl_baseText.dk n V 3]
theorem impl_baseText.four_take (n : Nat) (V : Int) (j : Nat) (h : j < 4) : (impl_baseText.four n V).take (j + 1) = (impl_baseText.four n V).take j ++ [impl_baseText.dk n V j] := by
  match j, h with
  | 0, _ => rfl
  | 1, _ => rfl
  | 2, _ => rfl
  | 3, _ => rfl
theorem impl_baseText.bytes3 (l cs : List Int) (kk : Nat) (g0 g1 g2 : Int) (hall : l.all (fun x => decide (0 ≤ x ∧ x ≤ 255)) = true) (hc : cs = (l.drop kk).take 3)
    (hval : (cs = [g0] ∧ g1 = 0 ∧ g2 = 0) ∨ (cs = [g0, g1] ∧ g2 = 0) ∨ cs = [g0, g1, g2]) : (0 ≤ g0 ∧ g0 ≤ 255) ∧ (0 ≤ g1 ∧ g1 ≤ 255) ∧ (0 ≤ g2 ∧ g2 ≤ 255) := by
  have hm : ∀ x, x ∈ cs → 0 ≤ x ∧ x ≤ 255 := by
    intro x hx
    rw [hc] at hx
    have h1 := List.mem_of_mem_drop (List.mem_of_mem_take hx)
    exact of_decide_eq_true (List.all_eq_true.1 hall x h1)
  rcases hval with ⟨h, rfl, rfl⟩ | ⟨h, rfl⟩ | h
  · exact ⟨hm g0 (by rw [h]; simp), by omega, by omega⟩
  · exact ⟨hm g0 (by rw [h]; simp), hm g1 (by rw [h]; simp), by omega⟩
  · exact ⟨hm g0 (by rw [h]; simp), hm g1 (by rw [h]; simp), hm g2 (by rw [h]; simp)⟩
theorem impl_baseText.q_step (l cs : List Int) (kk : Nat) (g0 g1 g2 : Int) (hall : l.all (fun x => decide (0 ≤ x ∧ x ≤ 255)) = true) (hc : cs = (l.drop kk).take 3)
    (hval : (cs = [g0] ∧ g1 = 0 ∧ g2 = 0) ∨ (cs = [g0, g1] ∧ g2 = 0) ∨ cs = [g0, g1, g2]) : impl_baseText.q (l.drop kk) = impl_baseText.four cs.length (g0 * 65536 + g1 * 256 + g2) ++ impl_baseText.q (l.drop (kk + 3)) := by
  obtain ⟨h0, h1, h2⟩ := impl_baseText.bytes3 l cs kk g0 g1 g2 hall hc hval
  rw [show l.drop (kk + 3) = (l.drop kk).drop 3 by rw [List.drop_drop]]
  generalize l.drop kk = m at hc
  have p0 : (2 : Int) ^ (18 - 6 * 0) = 262144 := by decide
  have p1 : (2 : Int) ^ (18 - 6 * 1) = 4096 := by decide
  have p2 : (2 : Int) ^ (18 - 6 * 2) = 64 := by decide
  have p3 : (2 : Int) ^ (18 - 6 * 3) = 1 := by decide
  match m, hc with
  | [], hc =>
    simp only [List.take_nil] at hc
    rcases hval with ⟨h, _⟩ | ⟨h, _⟩ | h <;> rw [hc] at h <;> cases h
  | [a], hc =>
    have hc' : cs = [a] := by rw [hc]; rfl
    rcases hval with ⟨h, rfl, rfl⟩ | ⟨h, _⟩ | h <;> rw [hc'] at h <;> cases h
    rw [hc']
    show [impl_baseText.dg (g0 / 4 % 64), impl_baseText.dg (g0 % 4 * 16), 61, 61] = [impl_baseText.dk 1 _ 0, impl_baseText.dk 1 _ 1, impl_baseText.dk 1 _ 2, impl_baseText.dk 1 _ 3] ++ impl_baseText.q []
    simp only [impl_baseText.dk, p0, p1, p2, p3, impl_baseText.q, List.append_nil]
    rw [if_neg (by omega), if_neg (by omega), if_pos (by omega), if_pos (by omega), show (g0 * 65536 + 0 * 256 + 0) / 262144 % 64 = g0 / 4 % 64 by omega, show (g0 * 65536 + 0 * 256 + 0) / 4096 % 64 = g0 % 4 * 16 by omega]
  | [a, b], hc =>
    have hc' : cs = [a, b] := by rw [hc]; rfl
    rcases hval with ⟨h, _⟩ | ⟨h, rfl⟩ | h <;> rw [hc'] at h <;> cases h
    rw [hc']
    show [impl_baseText.dg (g0 / 4 % 64), impl_baseText.dg (g0 % 4 * 16 + g1 / 16), impl_baseText.dg (g1 % 16 * 4), 61] = [impl_baseText.dk 2 _ 0, impl_baseText.dk 2 _ 1, impl_baseText.dk 2 _ 2, impl_baseText.dk 2 _ 3] ++ impl_baseText.q []
    simp only [impl_baseText.dk, p0, p1, p2, p3, impl_baseText.q, List.append_nil]
    rw [if_neg (by omega), if_neg (by omega), if_neg (by omega), if_pos (by omega), show (g0 * 65536 + g1 * 256 + 0) / 262144 % 64 = g0 / 4 % 64 by omega, show (g0 * 65536 + g1 * 256 + 0) / 4096 % 64 = g0 % 4 * 16 + g1 / 16 by omega, show (g0 * 65536 + g1 * 256 + 0) / 64 % 64 = g1 % 16 * 4 by omega]
  | a :: b :: c :: rest, hc =>
    have hc' : cs = [a, b, c] := by rw [hc]; rfl
    rcases hval with ⟨h, _⟩ | ⟨h, _⟩ | h <;> rw [hc'] at h <;> cases h
    rw [hc']
    show impl_baseText.dg (g0 / 4 % 64) :: impl_baseText.dg (g0 % 4 * 16 + g1 / 16) :: impl_baseText.dg (g1 % 16 * 4 + g2 / 64) :: impl_baseText.dg (g2 % 64) :: impl_baseText.q rest = [impl_baseText.dk 3 _ 0, impl_baseText.dk 3 _ 1, impl_baseText.dk 3 _ 2, impl_baseText.dk 3 _ 3] ++ impl_baseText.q rest
    simp only [impl_baseText.dk, p0, p1, p2, p3]
    rw [if_neg (by omega), if_neg (by omega), if_neg (by omega), if_neg (by omega), show (g0 * 65536 + g1 * 256 + g2) / 262144 % 64 = g0 / 4 % 64 by omega, show (g0 * 65536 + g1 * 256 + g2) / 4096 % 64 = g0 % 4 * 16 + g1 / 16 by omega, show (g0 * 65536 + g1 * 256 + g2) / 64 % 64 = g1 % 16 * 4 + g2 / 64 by omega, show (g0 * 65536 + g1 * 256 + g2) / 1 % 64 = g2 % 64 by omega]
    rfl
set_option maxHeartbeats 4000000 in
set_option maxRecDepth 100000 in
theorem impl_baseText.calls (A0 : Option Addr) (c0 : Nat) (l0 : List Int) (r : ByteArray) (w : World) (hr0 : Kd.C (Kd.int .u8) w A0 l0.length l0) (hc0 : l0.length ≤ c0) (h : impl_baseText.f l0 = some r) :
    Calls Tryz.prog 42 #[.slice A0 l0.length c0] w fun e w' => e = .returned (.string r) ∧ Below w.heap.size w w' := by
  unfold impl_baseText.f at h
  by_cases hf : l0.length ≤ 1000000 ∧ l0.all (fun x => decide (0 ≤ x ∧ x ≤ 255)) = true
  · rw [if_pos hf] at h
    cases h
    have HR0 := aM hr0
    have HF := aM hf
    have hlen := hf.1
    clear hr0 hf
    have HB := aM (Below.refl w.heap.size w)
    go_enter Tryz.func42, Tryz.ntmps42
    go_wp2_with (first | ((with_reducible refine gate_dst (N := 9) rfl ?_); (try (refine gate_guard (by rfl) ?_; dsimp only)); refine Kd.R_lit (Kd.int .u8) _ 5 ?hg (N := 9) ?hd (xs := ([] : List Int)) (inner := []) (ok := fun _ => True) (okp := fun _ => True) ?hr ?hp (fun _ hk => hk) trivial (Below.refl _ _) (Nat.le_refl _) (by simp) ?_; (case hd => rfl); (case hg => rfl); (case hr => exact z10); (case hp => exact (Reps.none _ _)); intro v111 w2 ho3 hb hg_ hnew_; clear hg_ hnew_; (try simp only [Int.reduceToNat] at ho3); have n0_ := aM (Kd.R_lower ho3 (below_size z32)); have n1_ := aM (below_step z32 hb); clear HB; have HO112 := n0_; have HB := n1_; clear n0_ n1_; clear hb ho3))
    go_loopg [3, 4] (l0.length + 3) (fun gg v3 v4 wr => ∃ (kk : Nat) (done : List Int), l0.length + 3 ≤ gg + kk ∧ kk ≤ l0.length + 2 ∧ v4 = .int .i64 kk ∧ done.length ≤ 2 * kk + 8 ∧ Aside0 (impl_baseText.q l0 = done ++ impl_baseText.q (l0.drop kk)) ∧ Aside0 (Kd.R (Kd.int .u8) 5 wr w.heap.size (fun _ => True) v3 done) ∧ Aside0 (Below w.heap.size w wr))
    case atStart => exact ⟨0, [], by omega, by omega, rfl, by simp, ⟨by simp⟩, ⟨by (with_reducible repeat (first | apply Kd.R_alloc | apply Kd.R_drewN | apply Kd.R_drew)); exact HO112.out⟩, ⟨z32⟩⟩
    case round =>
      obtain ⟨kk, done, hgg, hkk, rfl, hdl, HX, HO, HB⟩ := hrel
      by_cases hlt : kk < l0.length
      · have hltz : (kk : Int) < (l0.length : Int) := by omega
        go_wp2_with (fail "stop")
        obtain ⟨ad, rfl, hcell⟩ := Kd.at_int (Kd.C_below HR0.out HB.out) (kk : Int) (by omega) (by omega)
        have h0k : (0 : Int) ≤ (kk : Int) := by omega
        have hklz : (kk : Int) ≤ (l0.length : Int) := by omega
        have hlcz : (l0.length : Int) ≤ (c0 : Int) := by omega
        have hne : ¬ c0 = kk := by omega
        go_still_tail 4, (by kernel_rfl)
        change wpList _ _ _ _ _ (World.drew _)
        obtain ⟨cs, hcs⟩ : ∃ cs : List Int, cs = (l0.drop kk).take 3 := ⟨_, rfl⟩
        have hcl : cs.length = Nat.min (l0.length - kk) 3 := by rw [hcs, List.length_take, List.length_drop]; exact Nat.min_comm _ _
        have hcl3 : cs.length ≤ 3 := by rw [hcl]; exact Nat.min_le_right _ _
        have hcp : 0 < cs.length := by rw [hcl]; exact Nat.lt_min.2 ⟨by omega, by omega⟩
        have HC := aM hcs
        clear hcs
        have HSRC : Aside0 (∀ j v, (cs.map fun x => Value.int .u8 x)[j]? = some v → (wr.alloc (.cells #[.int .u8 0, .int .u8 0, .int .u8 0] 86 (0, 0))).drew.cell? ((ad.add kk).add j) = some v) := by
          refine ⟨fun j v hj => ?_⟩
          rw [List.getElem?_map, HC.out] at hj
          obtain ⟨x, hx, rfl⟩ := Option.map_eq_some_iff.1 hj
          have hj3 : j < 3 := by
            rcases Nat.lt_or_ge j 3 with h' | h'
            · exact h'
            rw [List.getElem?_eq_none (by rw [List.length_take]; omega)] at hx
            cases hx
          rw [List.getElem?_take, if_pos hj3, List.getElem?_drop] at hx
          have hkj : kk + j < l0.length := (List.getElem?_eq_some_iff.1 hx).1
          obtain ⟨ad', had, hcell'⟩ := Kd.at_int (Kd.C_below HR0.out HB.out) ((kk + j : Nat) : Int) (by omega) (by omega)
          cases had
          have hrd : rd l0 ((kk + j : Nat) : Int) = x := by rw [rd, List.getD_eq_getElem?_getD, Int.toNat_natCast, hx]; rfl
          rw [hrd] at hcell'
          rw [add_add]
          exact pw_cell_below (Below.drew (below_alloc (Below.refl _ _) _)) hcell'
        refine wpList_copy_splice rfl (.tmp 17) (.tmp 20) 22 22 rfl 5 Tryz.underlying22 (by kernel_rfl) (some ⟨wr.heap.size, 0, none⟩) (some (ad.add kk)) 3 3 (l0.length - kk) (c0 - kk) rfl rfl wr.heap.size 0 [.int .u8 0, .int .u8 0, .int .u8 0] 86 (by show (World.alloc _ _).heap[wr.heap.size]? = _; exact heap_alloc_new _ _) (cs.map fun x => Value.int .u8 x) (by rw [List.length_map, hcl]) (fun _ => ⟨rfl, _, rfl, HSRC.out⟩) (by rw [List.length_map]; simp; omega) (by intro v hv; obtain ⟨x, _, rfl⟩ := List.mem_map.1 hv; rfl) wr.heap.size wr (by apply Below.drew; apply below_alloc; exact Below.refl _ _) (Nat.le_refl _) ?_
        intro w1 hg hb1
        obtain ⟨g0, g1, g2, hcur, hval⟩ : ∃ g0 g1 g2 : Int, splice [Value.int .u8 0, .int .u8 0, .int .u8 0] 0 (cs.map fun x => Value.int .u8 x) = [Value.int .u8 g0, .int .u8 g1, .int .u8 g2] ∧ ((cs = [g0] ∧ g1 = 0 ∧ g2 = 0) ∨ (cs = [g0, g1] ∧ g2 = 0) ∨ cs = [g0, g1, g2]) := by
          match cs, hcp, hcl3 with
          | [a], _, _ => exact ⟨a, 0, 0, rfl, .inl ⟨rfl, rfl, rfl⟩⟩
          | [a, b], _, _ => exact ⟨a, b, 0, rfl, .inr (.inl ⟨rfl, rfl⟩)⟩
          | [a, b, c], _, _ => exact ⟨a, b, c, rfl, .inr (.inr rfl)⟩
        have hg2 : w1.heap[wr.heap.size]? = some (.cells #[.int .u8 g0, .int .u8 g1, .int .u8 g2] 86 (0, 0)) := by
          have h1 : w1.heap[wr.heap.size]? = _ := hg
          rw [hcur] at h1
          exact h1
        clear hg HSRC hcur
        have k0 : w1.cell? ⟨wr.heap.size, 0, none⟩ = some (.int .u8 g0) := by rw [Lib.cell_of_heap hg2]; rfl
        have k1 : w1.cell? ⟨wr.heap.size, 1, none⟩ = some (.int .u8 g1) := by rw [Lib.cell_of_heap hg2]; rfl
        have k2 : w1.cell? ⟨wr.heap.size, 2, none⟩ = some (.int .u8 g2) := by rw [Lib.cell_of_heap hg2]; rfl
        have HO1 := aM (Kd.R_below HO.out hb1)
        have HB1 := aM (below_step HB.out hb1)
        have HV := aM hval
        have HL := aM hcl
        clear hg2 hb1 hval hcl HO HB
        obtain ⟨hg0, hg1, hg2⟩ := impl_baseText.bytes3 l0 cs kk g0 g1 g2 HF.out.2 HC.out HV.out
        have hval := impl_baseText.val_eq g0 g1 g2 hg0 hg1 hg2
        have hval2 := impl_baseText.val_eq2 g0 g1 g2 hg0 hg1 hg2
        go_wp2
        (try simp only [hval2])
        (try simp only [hval])
        generalize hV : g0 * 65536 + g1 * 256 + g2 = V
        go_loopg [3, 35] 5 (fun gg v3 v35 w' => ∃ j : Nat, j ≤ 4 ∧ 4 - j < gg ∧ v35 = .int .i64 j ∧ Aside0 (Kd.R (Kd.int .u8) 5 w' w.heap.size (fun _ => True) v3 (done ++ (impl_baseText.four cs.length V).take j)) ∧ Aside0 (Below w.heap.size w w'))
        case atStart => exact ⟨0, by omega, by omega, rfl, ⟨by simpa using HO1.out⟩, HB1⟩
        case round =>
          obtain ⟨j, hj4, hjg, rfl, HO, HB⟩ := hrel
          by_cases hj : j < 4
          · have hjz : (j : Int) < 4 := by omega
            have hfl : (done ++ (impl_baseText.four cs.length V).take j).length ≤ 3000000 := by rw [List.length_append, List.length_take]; show _ + min j 4 ≤ _; omega
            by_cases hk : (j : Int) > (cs.length : Int)
            · have hdk : impl_baseText.dk cs.length V j = 61 := by unfold impl_baseText.dk; rw [if_pos (by omega)]
              go_wp2_with ((with_reducible refine gate_builtin (b := .append) (xs := #[.tmp 41, .tmp 42]) rfl ?_); (try (refine gate_guard (by rfl) ?_; dsimp only)); at_builtin; refine Kd.R_append (Kd.int .u8) (w0 := w) w.heap.size rfl (.tmp 41) (.tmp 42) 22 5 (.int .u8 0) 1 rfl Tryz.underlying22 info5 rfl (by decide) (by omega) u3 (done ++ (impl_baseText.four cs.length V).take j) 61 [.int .u8 61] (fun _ => True) (fun _ => False) rfl rfl ?aP (fun _ hk => hk.elim) ?aF ?aO ?aB ?aS ?aL ?_; (case aP => exact rfl); (case aB => exact HB.out); (case aF => exact (fun _ _ => trivial)); (case aO => exact HO.out); (case aS => exact (below_size HB.out)); (case aL => omega); intro v117 w24 ho hb hg hat; have HO2 := aM ho; have HB2 := aM hb; clear ho hb hg hat)
              go_roundg (4 - j)
              case measure => omega
              case rel => exact ⟨j + 1, by omega, by omega, by go_num, ⟨by rw [impl_baseText.four_take _ _ _ hj, ← List.append_assoc, hdk]; exact HO2.out⟩, HB2⟩
            have hkz : (j : Int) ≤ (cs.length : Int) := by omega
            have hV0 : 0 ≤ V ∧ V ≤ 16777215 := by omega
            obtain rfl | rfl | rfl | rfl : j = 0 ∨ j = 1 ∨ j = 2 ∨ j = 3 := by omega
            · have hx : Go.bits .and .i64 (V / 262144) 63 = V / 262144 % 64 := impl_baseText.and63 _ (by omega)
              obtain ⟨x, hxe⟩ : ∃ x : Int, x = V / 262144 % 64 := ⟨_, rfl⟩
              have hx0 : 0 ≤ x := by omega
              have hx1 : x < 64 := by omega
              have HDK : Aside0 (impl_baseText.dk cs.length V 0 = bt (⟨#[65, 66, 67, 68, 69, 70, 71, 72, 73, 74, 75, 76, 77, 78, 79, 80, 81, 82, 83, 84, 85, 86, 87, 88, 89, 90, 97, 98, 99, 100, 101, 102, 103, 104, 105, 106, 107, 108, 109, 110, 111, 112, 113, 114, 115, 116, 117, 118, 119, 120, 121, 122, 48, 49, 50, 51, 52, 53, 54, 55, 56, 57, 43, 47]⟩ : ByteArray) x) := ⟨by show _ = impl_baseText.dg x; unfold impl_baseText.dk; rw [if_neg (by omega), hxe, show (2 : Int) ^ (18 - 6 * 0) = 262144 by decide]⟩
              rw [← hxe] at hx
              clear hxe
              have hxb := bt_at (⟨#[65, 66, 67, 68, 69, 70, 71, 72, 73, 74, 75, 76, 77, 78, 79, 80, 81, 82, 83, 84, 85, 86, 87, 88, 89, 90, 97, 98, 99, 100, 101, 102, 103, 104, 105, 106, 107, 108, 109, 110, 111, 112, 113, 114, 115, 116, 117, 118, 119, 120, 121, 122, 48, 49, 50, 51, 52, 53, 54, 55, 56, 57, 43, 47]⟩ : ByteArray) x
              go_wp2_with ((with_reducible refine gate_builtin (b := .append) (xs := #[.tmp 44, .tmp 52]) rfl ?_); (try (refine gate_guard (by rfl) ?_; dsimp only)); at_builtin; refine Kd.R_append (Kd.int .u8) (w0 := w) w.heap.size rfl (.tmp 44) (.tmp 52) 22 5 (.int .u8 0) 1 rfl Tryz.underlying22 info5 rfl (by decide) (by omega) u3 (done ++ (impl_baseText.four cs.length V).take 0) (bt (⟨#[65, 66, 67, 68, 69, 70, 71, 72, 73, 74, 75, 76, 77, 78, 79, 80, 81, 82, 83, 84, 85, 86, 87, 88, 89, 90, 97, 98, 99, 100, 101, 102, 103, 104, 105, 106, 107, 108, 109, 110, 111, 112, 113, 114, 115, 116, 117, 118, 119, 120, 121, 122, 48, 49, 50, 51, 52, 53, 54, 55, 56, 57, 43, 47]⟩ : ByteArray) x) [.int .u8 (bt (⟨#[65, 66, 67, 68, 69, 70, 71, 72, 73, 74, 75, 76, 77, 78, 79, 80, 81, 82, 83, 84, 85, 86, 87, 88, 89, 90, 97, 98, 99, 100, 101, 102, 103, 104, 105, 106, 107, 108, 109, 110, 111, 112, 113, 114, 115, 116, 117, 118, 119, 120, 121, 122, 48, 49, 50, 51, 52, 53, 54, 55, 56, 57, 43, 47]⟩ : ByteArray) x)] (fun _ => True) (fun _ => False) rfl rfl ?aP (fun _ hk => hk.elim) ?aF ?aO ?aB ?aS ?aL ?_; (case aP => exact rfl); (case aB => exact HB.out); (case aF => exact (fun _ _ => trivial)); (case aO => exact HO.out); (case aS => exact (below_size HB.out)); (case aL => omega); intro v117 w24 ho hb hg hat; have HO2 := aM ho; have HB2 := aM hb; clear ho hb hg hat)
              go_roundg (4 - 0)
              case measure => omega
              case rel => exact ⟨0 + 1, by omega, by omega, by go_num, ⟨z47 HO2.out⟩, HB2⟩
            · have hx : Go.bits .and .i64 (V / 4096) 63 = V / 4096 % 64 := impl_baseText.and63 _ (by omega)
              obtain ⟨x, hxe⟩ : ∃ x : Int, x = V / 4096 % 64 := ⟨_, rfl⟩
              have hx0 : 0 ≤ x := by omega
              have hx1 : x < 64 := by omega
              have HDK : Aside0 (impl_baseText.dk cs.length V 1 = bt (⟨#[65, 66, 67, 68, 69, 70, 71, 72, 73, 74, 75, 76, 77, 78, 79, 80, 81, 82, 83, 84, 85, 86, 87, 88, 89, 90, 97, 98, 99, 100, 101, 102, 103, 104, 105, 106, 107, 108, 109, 110, 111, 112, 113, 114, 115, 116, 117, 118, 119, 120, 121, 122, 48, 49, 50, 51, 52, 53, 54, 55, 56, 57, 43, 47]⟩ : ByteArray) x) := ⟨by show _ = impl_baseText.dg x; unfold impl_baseText.dk; rw [if_neg (by omega), hxe, show (2 : Int) ^ (18 - 6 * 1) = 4096 by decide]⟩
              rw [← hxe] at hx
              clear hxe
              have hxb := bt_at (⟨#[65, 66, 67, 68, 69, 70, 71, 72, 73, 74, 75, 76, 77, 78, 79, 80, 81, 82, 83, 84, 85, 86, 87, 88, 89, 90, 97, 98, 99, 100, 101, 102, 103, 104, 105, 106, 107, 108, 109, 110, 111, 112, 113, 114, 115, 116, 117, 118, 119, 120, 121, 122, 48, 49, 50, 51, 52, 53, 54, 55, 56, 57, 43, 47]⟩ : ByteArray) x
              go_wp2_with ((with_reducible refine gate_builtin (b := .append) (xs := #[.tmp 44, .tmp 52]) rfl ?_); (try (refine gate_guard (by rfl) ?_; dsimp only)); at_builtin; refine Kd.R_append (Kd.int .u8) (w0 := w) w.heap.size rfl (.tmp 44) (.tmp 52) 22 5 (.int .u8 0) 1 rfl Tryz.underlying22 info5 rfl (by decide) (by omega) u3 (done ++ (impl_baseText.four cs.length V).take 1) (bt (⟨#[65, 66, 67, 68, 69, 70, 71, 72, 73, 74, 75, 76, 77, 78, 79, 80, 81, 82, 83, 84, 85, 86, 87, 88, 89, 90, 97, 98, 99, 100, 101, 102, 103, 104, 105, 106, 107, 108, 109, 110, 111, 112, 113, 114, 115, 116, 117, 118, 119, 120, 121, 122, 48, 49, 50, 51, 52, 53, 54, 55, 56, 57, 43, 47]⟩ : ByteArray) x) [.int .u8 (bt (⟨#[65, 66, 67, 68, 69, 70, 71, 72, 73, 74, 75, 76, 77, 78, 79, 80, 81, 82, 83, 84, 85, 86, 87, 88, 89, 90, 97, 98, 99, 100, 101, 102, 103, 104, 105, 106, 107, 108, 109, 110, 111, 112, 113, 114, 115, 116, 117, 118, 119, 120, 121, 122, 48, 49, 50, 51, 52, 53, 54, 55, 56, 57, 43, 47]⟩ : ByteArray) x)] (fun _ => True) (fun _ => False) rfl rfl ?aP (fun _ hk => hk.elim) ?aF ?aO ?aB ?aS ?aL ?_; (case aP => exact rfl); (case aB => exact HB.out); (case aF => exact (fun _ _ => trivial)); (case aO => exact HO.out); (case aS => exact (below_size HB.out)); (case aL => omega); intro v117 w24 ho hb hg hat; have HO2 := aM ho; have HB2 := aM hb; clear ho hb hg hat)
              go_roundg (4 - 1)
              case measure => omega
              case rel => exact ⟨1 + 1, by omega, by omega, by go_num, ⟨z47 HO2.out⟩, HB2⟩
            · have hx : Go.bits .and .i64 (V / 64) 63 = V / 64 % 64 := impl_baseText.and63 _ (by omega)
              obtain ⟨x, hxe⟩ : ∃ x : Int, x = V / 64 % 64 := ⟨_, rfl⟩
              have hx0 : 0 ≤ x := by omega
              have hx1 : x < 64 := by omega
              have HDK : Aside0 (impl_baseText.dk cs.length V 2 = bt (⟨#[65, 66, 67, 68, 69, 70, 71, 72, 73, 74, 75, 76, 77, 78, 79, 80, 81, 82, 83, 84, 85, 86, 87, 88, 89, 90, 97, 98, 99, 100, 101, 102, 103, 104, 105, 106, 107, 108, 109, 110, 111, 112, 113, 114, 115, 116, 117, 118, 119, 120, 121, 122, 48, 49, 50, 51, 52, 53, 54, 55, 56, 57, 43, 47]⟩ : ByteArray) x) := ⟨by show _ = impl_baseText.dg x; unfold impl_baseText.dk; rw [if_neg (by omega), hxe, show (2 : Int) ^ (18 - 6 * 2) = 64 by decide]⟩
              rw [← hxe] at hx
              clear hxe
              have hxb := bt_at (⟨#[65, 66, 67, 68, 69, 70, 71, 72, 73, 74, 75, 76, 77, 78, 79, 80, 81, 82, 83, 84, 85, 86, 87, 88, 89, 90, 97, 98, 99, 100, 101, 102, 103, 104, 105, 106, 107, 108, 109, 110, 111, 112, 113, 114, 115, 116, 117, 118, 119, 120, 121, 122, 48, 49, 50, 51, 52, 53, 54, 55, 56, 57, 43, 47]⟩ : ByteArray) x
              go_wp2_with ((with_reducible refine gate_builtin (b := .append) (xs := #[.tmp 44, .tmp 52]) rfl ?_); (try (refine gate_guard (by rfl) ?_; dsimp only)); at_builtin; refine Kd.R_append (Kd.int .u8) (w0 := w) w.heap.size rfl (.tmp 44) (.tmp 52) 22 5 (.int .u8 0) 1 rfl Tryz.underlying22 info5 rfl (by decide) (by omega) u3 (done ++ (impl_baseText.four cs.length V).take 2) (bt (⟨#[65, 66, 67, 68, 69, 70, 71, 72, 73, 74, 75, 76, 77, 78, 79, 80, 81, 82, 83, 84, 85, 86, 87, 88, 89, 90, 97, 98, 99, 100, 101, 102, 103, 104, 105, 106, 107, 108, 109, 110, 111, 112, 113, 114, 115, 116, 117, 118, 119, 120, 121, 122, 48, 49, 50, 51, 52, 53, 54, 55, 56, 57, 43, 47]⟩ : ByteArray) x) [.int .u8 (bt (⟨#[65, 66, 67, 68, 69, 70, 71, 72, 73, 74, 75, 76, 77, 78, 79, 80, 81, 82, 83, 84, 85, 86, 87, 88, 89, 90, 97, 98, 99, 100, 101, 102, 103, 104, 105, 106, 107, 108, 109, 110, 111, 112, 113, 114, 115, 116, 117, 118, 119, 120, 121, 122, 48, 49, 50, 51, 52, 53, 54, 55, 56, 57, 43, 47]⟩ : ByteArray) x)] (fun _ => True) (fun _ => False) rfl rfl ?aP (fun _ hk => hk.elim) ?aF ?aO ?aB ?aS ?aL ?_; (case aP => exact rfl); (case aB => exact HB.out); (case aF => exact (fun _ _ => trivial)); (case aO => exact HO.out); (case aS => exact (below_size HB.out)); (case aL => omega); intro v117 w24 ho hb hg hat; have HO2 := aM ho; have HB2 := aM hb; clear ho hb hg hat)
              go_roundg (4 - 2)
              case measure => omega
              case rel => exact ⟨2 + 1, by omega, by omega, by go_num, ⟨z47 HO2.out⟩, HB2⟩
            have hx : Go.bits .and .i64 (V) 63 = V % 64 := impl_baseText.and63 _ (by omega)
            obtain ⟨x, hxe⟩ : ∃ x : Int, x = V % 64 := ⟨_, rfl⟩
            have hx0 : 0 ≤ x := by omega
            have hx1 : x < 64 := by omega
            have HDK : Aside0 (impl_baseText.dk cs.length V 3 = bt (⟨#[65, 66, 67, 68, 69, 70, 71, 72, 73, 74, 75, 76, 77, 78, 79, 80, 81, 82, 83, 84, 85, 86, 87, 88, 89, 90, 97, 98, 99, 100, 101, 102, 103, 104, 105, 106, 107, 108, 109, 110, 111, 112, 113, 114, 115, 116, 117, 118, 119, 120, 121, 122, 48, 49, 50, 51, 52, 53, 54, 55, 56, 57, 43, 47]⟩ : ByteArray) x) := ⟨by show _ = impl_baseText.dg x; unfold impl_baseText.dk; rw [if_neg (by omega), hxe, show (2 : Int) ^ (18 - 6 * 3) = 1 by decide]; simp⟩
            rw [← hxe] at hx
            clear hxe
            have hxb := bt_at (⟨#[65, 66, 67, 68, 69, 70, 71, 72, 73, 74, 75, 76, 77, 78, 79, 80, 81, 82, 83, 84, 85, 86, 87, 88, 89, 90, 97, 98, 99, 100, 101, 102, 103, 104, 105, 106, 107, 108, 109, 110, 111, 112, 113, 114, 115, 116, 117, 118, 119, 120, 121, 122, 48, 49, 50, 51, 52, 53, 54, 55, 56, 57, 43, 47]⟩ : ByteArray) x
            go_wp2_with ((with_reducible refine gate_builtin (b := .append) (xs := #[.tmp 44, .tmp 52]) rfl ?_); (try (refine gate_guard (by rfl) ?_; dsimp only)); at_builtin; refine Kd.R_append (Kd.int .u8) (w0 := w) w.heap.size rfl (.tmp 44) (.tmp 52) 22 5 (.int .u8 0) 1 rfl Tryz.underlying22 info5 rfl (by decide) (by omega) u3 (done ++ (impl_baseText.four cs.length V).take 3) (bt (⟨#[65, 66, 67, 68, 69, 70, 71, 72, 73, 74, 75, 76, 77, 78, 79, 80, 81, 82, 83, 84, 85, 86, 87, 88, 89, 90, 97, 98, 99, 100, 101, 102, 103, 104, 105, 106, 107, 108, 109, 110, 111, 112, 113, 114, 115, 116, 117, 118, 119, 120, 121, 122, 48, 49, 50, 51, 52, 53, 54, 55, 56, 57, 43, 47]⟩ : ByteArray) x) [.int .u8 (bt (⟨#[65, 66, 67, 68, 69, 70, 71, 72, 73, 74, 75, 76, 77, 78, 79, 80, 81, 82, 83, 84, 85, 86, 87, 88, 89, 90, 97, 98, 99, 100, 101, 102, 103, 104, 105, 106, 107, 108, 109, 110, 111, 112, 113, 114, 115, 116, 117, 118, 119, 120, 121, 122, 48, 49, 50, 51, 52, 53, 54, 55, 56, 57, 43, 47]⟩ : ByteArray) x)] (fun _ => True) (fun _ => False) rfl rfl ?aP (fun _ hk => hk.elim) ?aF ?aO ?aB ?aS ?aL ?_; (case aP => exact rfl); (case aB => exact HB.out); (case aF => exact (fun _ _ => trivial)); (case aO => exact HO.out); (case aS => exact (below_size HB.out)); (case aL => omega); intro v117 w24 ho hb hg hat; have HO2 := aM ho; have HB2 := aM hb; clear ho hb hg hat)
            go_roundg (4 - 3)
            case measure => omega
            case rel => exact ⟨3 + 1, by omega, by omega, by go_num, ⟨z47 HO2.out⟩, HB2⟩
          have hjz : ¬ ((j : Int) < 4) := by omega
          obtain rfl : j = 4 := by omega
          go_wp2
          go_roundg (l0.length + 3 - (kk + 3))
          case measure => omega
          case rel => exact ⟨kk + 3, done ++ impl_baseText.four cs.length V, by omega, by omega, by go_num, by rw [List.length_append]; show _ + 4 ≤ _; omega, ⟨by rw [HX.out, impl_baseText.q_step l0 cs kk g0 g1 g2 HF.out.2 HC.out HV.out, hV, List.append_assoc]⟩, HO, HB⟩
      have hltz : ¬ ((kk : Int) < (l0.length : Int)) := by omega
      have hdone : impl_baseText.q l0 = done := by
        have h1 := HX.out
        rw [List.drop_eq_nil_of_le (by omega)] at h1
        simpa [impl_baseText.q] using h1
      have hcv := own_string (P := Tryz.prog) Tryz.underlying22 Tryz.underlying5 Tryz.underlying9 (Kd.own_of_R HO.out)
      subst hdone
      go_wp2
      go_ret
      exact ⟨by first | rfl | simp, HB.out⟩
  rw [if_neg hf] at h
  cases h
open Go.Shelf in
def strings_TrimRight.sh_lays162_ren : Go.Shelf.Ren := ⟨fun | 162 => 133 | 232 => 144 | 227 => 84 | 234 => 145 | 236 => 146 | 228 => 116 | 271 => 148 | 151 => 118 | 120 => 149 | 197 => 117 | 152 => 136 | 260 => 135 | 137 => 134 | 119 => 147 | 224 => 125 | 225 => 124 | 217 => 123 | 266 => 140 | n => n, fun | 9 => 9 | 4 => 4 | 3 => 3 | 5 => 5 | 117 => 112 | 116 => 111 | 0 => 0 | 124 => 115 | 21 => 21 | 105 => 130 | 46 => 87 | 119 => 146 | 139 => 149 | 138 => 148 | n => n, fun | 3 => 1 | 4 => 2 | n => n⟩
open Go.Shelf in
theorem strings_TrimRight.sh_lays162 : Go.Proofs.Lays.n162 Tryz.prog strings_TrimRight.sh_lays162_ren := {
  mixed := by kernel_rfl
  f119 := Tryz.func147.trans (congrArg some (by kernel_rfl))
  f120 := Tryz.func149.trans (congrArg some (by kernel_rfl))
  f137 := Tryz.func134.trans (congrArg some (by kernel_rfl))
  f151 := Tryz.func118.trans (congrArg some (by kernel_rfl))
  f152 := Tryz.func136.trans (congrArg some (by kernel_rfl))
  f162 := Tryz.func133.trans (congrArg some (by kernel_rfl))
  f197 := Tryz.func117.trans (congrArg some (by kernel_rfl))
  f217 := Tryz.func123.trans (congrArg some (by kernel_rfl))
  f224 := Tryz.func125.trans (congrArg some (by kernel_rfl))
  f225 := Tryz.func124.trans (congrArg some (by kernel_rfl))
  f227 := Tryz.func84.trans (congrArg some (by kernel_rfl))
  f228 := Tryz.func116.trans (congrArg some (by kernel_rfl))
  f232 := Tryz.func144.trans (congrArg some (by kernel_rfl))
  f234 := Tryz.func145.trans (congrArg some (by kernel_rfl))
  f236 := Tryz.func146.trans (congrArg some (by kernel_rfl))
  f260 := Tryz.func135.trans (congrArg some (by kernel_rfl))
  f266 := Tryz.func140.trans (congrArg some (by kernel_rfl))
  f271 := Tryz.func148.trans (congrArg some (by kernel_rfl))
  t0 := Tryz.underlying0
  a0 := Tryz.isAgg0
  z0 := Tryz.sizeOf0
  v0 := Tryz.zeroValue0
  t3 := Tryz.underlying3
  a3 := Tryz.isAgg3
  z3 := Tryz.sizeOf3
  v3 := Tryz.zeroValue3
  t4 := Tryz.underlying4
  a4 := Tryz.isAgg4
  z4 := Tryz.sizeOf4
  v4 := Tryz.zeroValue4
  t5 := Tryz.underlying5
  a5 := Tryz.isAgg5
  z5 := Tryz.sizeOf5
  v5 := Tryz.zeroValue5
  t9 := Tryz.underlying9
  a9 := Tryz.isAgg9
  z9 := Tryz.sizeOf9
  v9 := Tryz.zeroValue9
  t21 := Tryz.underlying21
  a21 := Tryz.isAgg21
  z21 := Tryz.sizeOf21
  v21 := Tryz.zeroValue21
  t46 := Tryz.underlying87
  a46 := Tryz.isAgg87
  z46 := Tryz.sizeOf87
  v46 := Tryz.zeroValue87
  t105 := Tryz.underlying130
  a105 := Tryz.isAgg130
  z105 := Tryz.sizeOf130
  v105 := Tryz.zeroValue130
  t116 := Tryz.underlying111
  a116 := Tryz.isAgg111
  z116 := Tryz.sizeOf111
  t117 := Tryz.underlying112
  a117 := Tryz.isAgg112
  z117 := Tryz.sizeOf112
  v117 := Tryz.zeroValue112
  t119 := Tryz.underlying146
  a119 := Tryz.isAgg146
  z119 := Tryz.sizeOf146
  t124 := Tryz.underlying115
  a124 := Tryz.isAgg115
  z124 := Tryz.sizeOf115
  v124 := Tryz.zeroValue115
  t138 := Tryz.underlying148
  a138 := Tryz.isAgg148
  z138 := Tryz.sizeOf148
  v138 := Tryz.zeroValue148
  t139 := Tryz.underlying149
  a139 := Tryz.isAgg149
  z139 := Tryz.sizeOf149
  v139 := Tryz.zeroValue149
  g3 := by kernel_rfl
  g4 := by kernel_rfl }
open Go.Shelf in
open Go.RowKit in
theorem strings_TrimRight.sh_strings_TrimRight_one (s : ByteArray) (c : UInt8) (hc : c.toNat < 128) (w : World) (hs : s.size ≤ 9223372036854775807) :
    Calls Tryz.prog 133 #[.string s, .string ⟨#[c]⟩] w fun e w' => e = .returned (.string ⟨(Lib.trimRightB s.data.toList c).toArray⟩) ∧ w' = w := Any.strings_TrimRight_one strings_TrimRight.sh_lays162 s c hc w hs
def strings_TrimRight.f (a0 : ByteArray) (a1 : ByteArray) : Option ByteArray := if a1.size = 1 ∧ bt a1 0 < 128 ∧ a0.size ≤ 9223372036854775807 then some ⟨(Lib.trimRightB a0.data.toList (bt a1 0).toNat.toUInt8).toArray⟩ else none
theorem strings_TrimRight.one (a : ByteArray) (h : a.size = 1) : ∃ c : UInt8, a = ⟨#[c]⟩ ∧ bt a 0 = (c.toNat : Int) ∧ (bt a 0).toNat.toUInt8 = c := by
  match a, h with
  | ⟨⟨[c]⟩⟩, _ => exact ⟨c, rfl, rfl, by show ((c.toNat : Int)).toNat.toUInt8 = c; simp⟩
theorem strings_TrimRight.calls (a0 : ByteArray) (a1 : ByteArray) (r : ByteArray) (w : World) (h : strings_TrimRight.f a0 a1 = some r) :
    Calls Tryz.prog 133 #[.string a0, .string a1] w fun e w' => e = .returned (.string r) ∧ Drawn0 w w' := by
  unfold strings_TrimRight.f at h
  by_cases h1 : a1.size = 1 ∧ bt a1 0 < 128 ∧ a0.size ≤ 9223372036854775807
  · rw [if_pos h1] at h
    cases h
    obtain ⟨c, hc, hn, hu⟩ := strings_TrimRight.one a1 h1.1
    have h2 := h1.2.1
    rw [hn] at h2
    rw [hu]
    subst hc
    refine (strings_TrimRight.sh_strings_TrimRight_one a0 c (by omega) w h1.2.2).mono ?_
    rintro e w' ⟨rfl, rfl⟩
    exact ⟨rfl, Drawn0.refl _⟩
  rw [if_neg h1] at h
  cases h
open Go.Shelf in
def strings_IndexByte.sh_lays137_ren : Go.Shelf.Ren := ⟨fun | 137 => 134 | 217 => 123 | 266 => 140 | n => n, fun | 9 => 9 | 5 => 5 | 3 => 3 | n => n, fun | n => n⟩
open Go.Shelf in
theorem strings_IndexByte.sh_lays137 : Go.Proofs.Lays.n137 Tryz.prog strings_IndexByte.sh_lays137_ren := {
  mixed := by kernel_rfl
  f137 := Tryz.func134.trans (congrArg some (by kernel_rfl))
  f217 := Tryz.func123.trans (congrArg some (by kernel_rfl))
  f266 := Tryz.func140.trans (congrArg some (by kernel_rfl))
  t3 := Tryz.underlying3
  a3 := Tryz.isAgg3
  z3 := Tryz.sizeOf3
  v3 := Tryz.zeroValue3
  t5 := Tryz.underlying5
  a5 := Tryz.isAgg5
  z5 := Tryz.sizeOf5
  v5 := Tryz.zeroValue5
  t9 := Tryz.underlying9
  a9 := Tryz.isAgg9
  z9 := Tryz.sizeOf9
  v9 := Tryz.zeroValue9 }
open Go.Shelf in
open Go.RowKit in
theorem strings_IndexByte.sh_strings_IndexByte (s : ByteArray) (c : Int) (w : World) :
    Calls Tryz.prog 134 #[.string s, .int .u8 c] w fun e w' => e = .returned (.int .i64 (Lib.indexByte s.data.toList c.toNat.toUInt8)) ∧ w' = w := Any.strings_IndexByte strings_IndexByte.sh_lays137 s c w
def strings_IndexByte.f (a0 : ByteArray) (a1 : Int) : Option Int := some (Lib.indexByte a0.data.toList a1.toNat.toUInt8)
theorem strings_IndexByte.calls (a0 : ByteArray) (a1 : Int) (r : Int) (w : World) (h : strings_IndexByte.f a0 a1 = some r) :
    Calls Tryz.prog 134 #[.string a0, .int .u8 a1] w fun e w' => e = .returned (.int .i64 r) ∧ Drawn0 w w' := by
  refine (strings_IndexByte.sh_strings_IndexByte a0 a1 w).mono ?_
  rintro e w' ⟨rfl, rfl⟩
  unfold strings_IndexByte.f at h
  cases h
  exact ⟨rfl, Drawn0.refl _⟩
def impl_baseBytes.l0 : Nat → ByteArray → ByteArray → List Int → Int → Int → Int → Int → Option (List Int × Bool)
 | 0, _, _, _, _, _, _, _ => none
 | k + 1, x0, x4, x5, x6, x7, x18, x19 => if x19 < x18 then (if 0 ≤ x19 then (if x19 < (x4.size : Int) then ((strings_IndexByte.f (⟨#[65, 66, 67, 68, 69, 70, 71, 72, 73, 74, 75, 76, 77, 78, 79, 80, 81, 82, 83, 84, 85, 86, 87, 88, 89, 90, 97, 98, 99, 100, 101, 102, 103, 104, 105, 106, 107, 108, 109, 110, 111, 112, 113, 114, 115, 116, 117, 118, 119, 120, 121, 122, 48, 49, 50, 51, 52, 53, 54, 55, 56, 57, 43, 47]⟩ : ByteArray) (bt x4 x19)).bind fun t265 => (if t265 < 0 then (some (([] : List Int), false)) else (if (wrap64 (x7 + 6)) ≥ 8 then (if 0 ≤ (wrap64 ((wrap64 (x7 + 6)) - 8)) then (if x5.length < 140737488355328 then (impl_baseBytes.l0 k x0 x4 (x5 ++ [(shr .i64 (Go.bits .or .i64 (wrap64 (x6 * 64)) t265) (wrap64 ((wrap64 (x7 + 6)) - 8))) % 256]) (Go.bits .and .i64 (Go.bits .or .i64 (wrap64 (x6 * 64)) t265) (wrap64 ((shl .i64 1 (wrap64 ((wrap64 (x7 + 6)) - 8))) - 1))) (wrap64 ((wrap64 (x7 + 6)) - 8)) x18 (wrap64 (x19 + 1))) else (none)) else (none)) else (impl_baseBytes.l0 k x0 x4 x5 (Go.bits .or .i64 (wrap64 (x6 * 64)) t265) (wrap64 (x7 + 6)) x18 (wrap64 (x19 + 1)))))) else (none)) else (none)) else ((impl_baseText.f x5).bind fun t264 => (some (x5, (t264.toList == x0.toList))))
def impl_baseBytes.f (k : Nat) (a0 : ByteArray) : Option (List Int × Bool) := if ((a0.size : Int) % 4) = 0 then ((strings_TrimRight.f a0 (⟨#[61]⟩ : ByteArray)).bind fun t260 => (impl_baseBytes.l0 k a0 t260 (([] : List Int)) 0 0 (t260.size : Int) 0)) else (some (([] : List Int), false))
set_option maxHeartbeats 8000000 in
set_option maxRecDepth 100000 in
theorem impl_baseBytes.calls (k : Nat) (a0 : ByteArray) (r1 : List Int) (r2 : Bool) (w : World) (h : impl_baseBytes.f k a0 = some (r1, r2)) :
  Calls Tryz.prog 111 #[.string a0] w fun e w' => ∃ v0_ : Value, e = .returned (.tuple #[v0_, .bool r2]) ∧ Kd.R (Kd.int .u8) 5 w' w.heap.size (fun _ => True) v0_ r1 ∧ Below w.heap.size w w' := by
 have HB := aM (Below.refl w.heap.size w)
 have H : (if ((a0.size : Int) % 4) = 0 then ((strings_TrimRight.f a0 (⟨#[61]⟩ : ByteArray)).bind fun t260 => (impl_baseBytes.l0 k a0 t260 (([] : List Int)) 0 0 (t260.size : Int) 0)) else (some (([] : List Int), false))) = some (r1, r2) := h
 clear h
 have HQ_ := aM H
 clear H
 go_enter Tryz.func111, Tryz.ntmps111
 have H := HQ_.out
 clear HQ_
 by_cases c2 : ((a0.size : Int) % 4) = 0
 ·rw [if_pos c2] at H
  have c2b0 : (((a0.size : Int) % 4) == 0) = true := beq_iff_eq.mpr c2
  have c2b1 : (((a0.size : Int) % 4) != 0) = false := bne_eq_false_iff_eq.mpr c2
  clear c2
  replace H := Option.bind_eq_some_iff.mp H
  obtain ⟨t260, A30, H⟩ := H
  replace H : (impl_baseBytes.l0 k a0 t260 (([] : List Int)) 0 0 (t260.size : Int) 0) = some (r1, r2) := H
  have A3 := aM A30
  clear A30
  obtain ⟨y261, hy261⟩ : ∃ y_ : List Int, y_ = (([] : List Int)) := ⟨_, rfl⟩
  replace H : (impl_baseBytes.l0 k a0 t260 y261 0 0 (t260.size : Int) 0) = some (r1, r2) := z0 hy261
  have Ny261 := aM hy261
  clear hy261
  have H' := aM H
  clear H
  (try simp only [c2b0, c2b1])
  go_wp2_with (first | ((with_reducible refine gate_callee (f := 133) rfl ?_); refine gL_ (some 15) Tryz.func133 #[.string a0, .string (⟨#[61]⟩ : ByteArray)] ?_; (with_reducible refine (strings_TrimRight.calls a0 (⟨#[61]⟩ : ByteArray) t260 _ A3.out).mono ?_); rintro e w' ⟨rfl, ⟨nd, rfl⟩⟩; refine ⟨_, rfl, ?_⟩) | ((with_reducible refine gate_dst (N := 16) rfl ?_); refine Kd.R_lit (Kd.int .u8) _ 5 ?hg (N := 16) ?hd (xs := ([] : List Int)) (inner := []) (ok := fun _ => True) (okp := fun _ => True) ?hr ?hp (fun _ hk => hk) trivial (Below.refl _ _) (Nat.le_refl _) (by simp) ?_; (case hd => rfl); (case hg => rfl); (case hr => exact z10); (case hp => exact (Reps.none _ _)); intro v262 w4 ho5 hb hg_ hnew_; clear hg_ hnew_; (first | rw [← Ny261.out] at ho5 | (simp only [Int.reduceToNat] at ho5; rw [← Ny261.out] at ho5)); have HO263 := aM (Kd.R_lower ho5 (below_size bB)); replace HB := aM (below_step bB hb); clear hb ho5))
  go_loopg [5, 6, 7, 19] k (fun kq v5 v6 v7 v19 w' => ∃ (x5_1 : List Int) (x6_1 : Int) (x7_1 : Int) (x19_1 : Int), v6 = .int .i64 x6_1 ∧ v7 = .int .i64 x7_1 ∧ v19 = .int .i64 x19_1 ∧ Aside0 (impl_baseBytes.l0 kq a0 t260 x5_1 x6_1 x7_1 (t260.size : Int) x19_1 = some (r1, r2)) ∧ Aside0 (kq ≤ k) ∧ Aside0 (Kd.R (Kd.int .u8) 5 w' w.heap.size (fun _ => True) v5 x5_1) ∧ Aside0 (Below w.heap.size w w'))
  case atStart => exact ⟨(y261), (0), (0), (0), bS, bS, bS, H', ⟨Nat.le_refl _⟩, ⟨bR HO263⟩, ⟨bB⟩⟩
  case round =>
   clear H'
   try clear c1
   try clear c2
   try clear c2b0
   try clear c2b1
   try clear p2
   obtain ⟨x5_1, x6_1, x7_1, x19_1, rfl, rfl, rfl, HA, HK1, HO_5, HB⟩ := hrel
   cases gk with
   | zero => exact absurd HA.out (by simp [impl_baseBytes.l0])
   | succ k1 =>
    have H := HA.out
    clear HA
    simp only [impl_baseBytes.l0] at H
    by_cases c6 : x19_1 < (t260.size : Int)
    ·rw [if_pos c6] at H
     have c6b0 : decide (x19_1 < (t260.size : Int)) = true := decide_eq_true c6
     clear c6
     by_cases c7 : 0 ≤ x19_1
     ·rw [if_pos c7] at H
      have c7b0 : decide (0 ≤ x19_1) = true := decide_eq_true c7
      clear c7
      by_cases c8 : x19_1 < (t260.size : Int)
      ·rw [if_pos c8] at H
       have c8b0 : decide (x19_1 < (t260.size : Int)) = true := decide_eq_true c8
       clear c8
       replace H := Option.bind_eq_some_iff.mp H
       obtain ⟨t265, A100, H⟩ := H
       replace H : (if t265 < 0 then (some (([] : List Int), false)) else (if (wrap64 (x7_1 + 6)) ≥ 8 then (if 0 ≤ (wrap64 ((wrap64 (x7_1 + 6)) - 8)) then (if x5_1.length < 140737488355328 then (impl_baseBytes.l0 k1 a0 t260 (x5_1 ++ [(shr .i64 (Go.bits .or .i64 (wrap64 (x6_1 * 64)) t265) (wrap64 ((wrap64 (x7_1 + 6)) - 8))) % 256]) (Go.bits .and .i64 (Go.bits .or .i64 (wrap64 (x6_1 * 64)) t265) (wrap64 ((shl .i64 1 (wrap64 ((wrap64 (x7_1 + 6)) - 8))) - 1))) (wrap64 ((wrap64 (x7_1 + 6)) - 8)) (t260.size : Int) (wrap64 (x19_1 + 1))) else (none)) else (none)) else (impl_baseBytes.l0 k1 a0 t260 x5_1 (Go.bits .or .i64 (wrap64 (x6_1 * 64)) t265) (wrap64 (x7_1 + 6)) (t260.size : Int) (wrap64 (x19_1 + 1))))) = some (r1, r2) := H
       have A10 := aM A100
       clear A100
       by_cases c11 : t265 < 0
       ·rw [if_pos c11] at H
        have c11b0 : decide (t265 < 0) = true := decide_eq_true c11
        clear c11
        simp only [Option.some.injEq, Prod.mk.injEq] at H
        obtain ⟨rfl, rfl⟩ := H
        have p9 : 0 ≤ (x19_1 : Int) := pI
        have q9 : x19_1 < (t260.size : Int) := pI
        have hx9 := bt_at t260 x19_1
        replace p9 := eq_true p9
        replace q9 := eq_true q9
        go_wp2_with (first | ((with_reducible refine gate_callee (f := 134) rfl ?_); refine gL_ (some 25) Tryz.func134 #[.string (⟨#[65, 66, 67, 68, 69, 70, 71, 72, 73, 74, 75, 76, 77, 78, 79, 80, 81, 82, 83, 84, 85, 86, 87, 88, 89, 90, 97, 98, 99, 100, 101, 102, 103, 104, 105, 106, 107, 108, 109, 110, 111, 112, 113, 114, 115, 116, 117, 118, 119, 120, 121, 122, 48, 49, 50, 51, 52, 53, 54, 55, 56, 57, 43, 47]⟩ : ByteArray), .int .u8 (bt t260 x19_1)] ?_; (with_reducible refine (strings_IndexByte.calls (⟨#[65, 66, 67, 68, 69, 70, 71, 72, 73, 74, 75, 76, 77, 78, 79, 80, 81, 82, 83, 84, 85, 86, 87, 88, 89, 90, 97, 98, 99, 100, 101, 102, 103, 104, 105, 106, 107, 108, 109, 110, 111, 112, 113, 114, 115, 116, 117, 118, 119, 120, 121, 122, 48, 49, 50, 51, 52, 53, 54, 55, 56, 57, 43, 47]⟩ : ByteArray) (bt t260 x19_1) t265 _ A10.out).mono ?_); rintro e w' ⟨rfl, ⟨nd, rfl⟩⟩; refine ⟨_, rfl, ?_⟩))
        go_ret2
        exact ⟨_, bE, z6, bB⟩
       rw [if_neg c11] at H
       have c11b0 : decide (t265 < 0) = false := decide_eq_false c11
       clear c11
       by_cases c12 : (wrap64 (x7_1 + 6)) ≥ 8
       ·rw [if_pos c12] at H
        have c12b0 : decide (8 ≤ (wrap64 (x7_1 + 6))) = true := decide_eq_true c12
        clear c12
        obtain ⟨ji13, hji13⟩ : ∃ j_ : Int, (wrap64 ((wrap64 (x7_1 + 6)) - 8)) = j_ := ⟨_, rfl⟩
        replace H : (if 0 ≤ (ji13) then (if x5_1.length < 140737488355328 then (impl_baseBytes.l0 k1 a0 t260 (x5_1 ++ [(shr .i64 (Go.bits .or .i64 (wrap64 (x6_1 * 64)) t265) (ji13)) % 256]) (Go.bits .and .i64 (Go.bits .or .i64 (wrap64 (x6_1 * 64)) t265) (wrap64 ((shl .i64 1 (ji13)) - 1))) ji13 (t260.size : Int) (wrap64 (x19_1 + 1))) else (none)) else (none)) = some (r1, r2) := by first | (rw [hji13] at H; exact H) | (simp only [hji13] at H ⊢; exact H)
        (try rw [hji13] at A10)
        have hji13w : (IntKind.i64.wrap ((wrap64 (x7_1 + 6)) - 8)) = ji13 := (i64_w _).trans hji13
        by_cases c14 : 0 ≤ (ji13)
        ·rw [if_pos c14] at H
         have c14b0 := eq_true c14
         have c14b1 : decide (0 ≤ (ji13)) = true := decide_eq_true c14
         clear c14
         obtain ⟨ji15, hji15⟩ : ∃ j_ : Int, (shr .i64 (Go.bits .or .i64 (wrap64 (x6_1 * 64)) t265) (ji13)) = j_ := ⟨_, rfl⟩
         replace H : (if x5_1.length < 140737488355328 then (impl_baseBytes.l0 k1 a0 t260 (x5_1 ++ [(ji15) % 256]) (Go.bits .and .i64 (Go.bits .or .i64 (wrap64 (x6_1 * 64)) t265) (wrap64 ((shl .i64 1 (ji13)) - 1))) ji13 (t260.size : Int) (wrap64 (x19_1 + 1))) else (none)) = some (r1, r2) := by first | (rw [hji15] at H; exact H) | (simp only [hji15] at H ⊢; exact H)
         (try rw [hji15] at A10)
         have hji15_ : ((Go.bits .or .i64 (wrap64 (x6_1 * 64)) t265) / 2 ^ min (ji13).toNat 64) = ji15 := hji15
         have hji15z : (ji13) ≤ 64 → ((Go.bits .or .i64 (wrap64 (x6_1 * 64)) t265) / 2 ^ (ji13).toNat) = ji15 := shr_small hji15
         by_cases c16 : x5_1.length < 140737488355328
         ·rw [if_pos c16] at H
          have LMc16 := aM c16
          clear c16
          obtain ⟨y266, hy266⟩ : ∃ y_ : List Int, y_ = (x5_1 ++ [(ji15) % 256]) := ⟨_, rfl⟩
          replace H : (impl_baseBytes.l0 k1 a0 t260 y266 (Go.bits .and .i64 (Go.bits .or .i64 (wrap64 (x6_1 * 64)) t265) (wrap64 ((shl .i64 1 (ji13)) - 1))) ji13 (t260.size : Int) (wrap64 (x19_1 + 1))) = some (r1, r2) := z0 hy266
          have Ny266 := aM hy266
          clear hy266
          have c17b0 := eq_true (pI : 0 ≤ (ji13))
          obtain ⟨ji18, hji18⟩ : ∃ j_ : Int, (shl .i64 1 (ji13)) = j_ := ⟨_, rfl⟩
          replace H : (impl_baseBytes.l0 k1 a0 t260 y266 (Go.bits .and .i64 (Go.bits .or .i64 (wrap64 (x6_1 * 64)) t265) (wrap64 ((ji18) - 1))) ji13 (t260.size : Int) (wrap64 (x19_1 + 1))) = some (r1, r2) := by first | (rw [hji18] at H; exact H) | (simp only [hji18] at H ⊢; exact H)
          (try rw [hji18] at A10)
          have hji18_ : (IntKind.i64.wrap (1 * 2 ^ min (ji13).toNat 64)) = ji18 := hji18
          have hji18z : (ji13) ≤ 64 → (IntKind.i64.wrap (1 * 2 ^ (ji13).toNat)) = ji18 := shl_small hji18
          have hji18u : (IntKind.i64.wrap (2 ^ min (ji13).toNat 64)) = ji18 := by have h_ := hji18_; rw [Int.one_mul] at h_; exact h_
          have hji18v : (ji13) ≤ 64 → (IntKind.i64.wrap (2 ^ (ji13).toNat)) = ji18 := fun hle_ => by have h_ := hji18z hle_; rw [Int.one_mul] at h_; exact h_
          have hji18y : (wrap64 (1 * 2 ^ min (ji13).toNat 64)) = ji18 := (i64_w _).symm.trans hji18_
          have hji18x : (ji13) ≤ 64 → (wrap64 (1 * 2 ^ (ji13).toNat)) = ji18 := fun h_ => (i64_w _).symm.trans (hji18z h_)
          have H' := aM H
          clear H
          have p9 : 0 ≤ (x19_1 : Int) := pI
          have q9 : x19_1 < (t260.size : Int) := pI
          have hx9 := bt_at t260 x19_1
          replace p9 := eq_true p9
          replace q9 := eq_true q9
          go_wp2_with (first | ((with_reducible refine gate_callee (f := 134) rfl ?_); refine gL_ (some 25) Tryz.func134 #[.string (⟨#[65, 66, 67, 68, 69, 70, 71, 72, 73, 74, 75, 76, 77, 78, 79, 80, 81, 82, 83, 84, 85, 86, 87, 88, 89, 90, 97, 98, 99, 100, 101, 102, 103, 104, 105, 106, 107, 108, 109, 110, 111, 112, 113, 114, 115, 116, 117, 118, 119, 120, 121, 122, 48, 49, 50, 51, 52, 53, 54, 55, 56, 57, 43, 47]⟩ : ByteArray), .int .u8 (bt t260 x19_1)] ?_; (with_reducible refine (strings_IndexByte.calls (⟨#[65, 66, 67, 68, 69, 70, 71, 72, 73, 74, 75, 76, 77, 78, 79, 80, 81, 82, 83, 84, 85, 86, 87, 88, 89, 90, 97, 98, 99, 100, 101, 102, 103, 104, 105, 106, 107, 108, 109, 110, 111, 112, 113, 114, 115, 116, 117, 118, 119, 120, 121, 122, 48, 49, 50, 51, 52, 53, 54, 55, 56, 57, 43, 47]⟩ : ByteArray) (bt t260 x19_1) t265 _ A10.out).mono ?_); rintro e w' ⟨rfl, ⟨nd, rfl⟩⟩; refine ⟨_, rfl, ?_⟩) | ((with_reducible refine gate_builtin (b := .append) (xs := #[.tmp 38, .tmp 43]) rfl ?_); at_builtin; refine Kd.R_append (Kd.int .u8) (w0 := w) w.heap.size rfl (.tmp 38) (.tmp 43) 22 5 (.int .u8 0) 1 rfl Tryz.underlying22 info5 rfl (by decide) (by omega) u5 x5_1 ((ji15) % 256) [.int .u8 ((ji15) % 256)] (fun _ => True) (fun _ => False) rfl rfl ?aP (fun _ hk => hk.elim) ?aF ?aO ?aB ?aS ?aL ?_; (case aP => exact rfl); (case aB => exact bB); (case aF => exact (fun _ _ => trivial)); (case aO => exact (bR HO_5)); (case aS => exact (below_size bB)); (case aL => have := LMc16.out; omega); intro v267 w19 ho hb hg hat; rw [← Ny266.out] at ho; have n0_ := aM (hb); have n1_ := aM (ho); clear HB; clear HO_5; have HB := n0_; have HO268 := n1_; clear n0_ n1_; clear ho hb hg hat))
          go_roundg k1
          case measure => have := HK1.out; omega
          case rel => exact ⟨(y266), (Go.bits .and .i64 (Go.bits .or .i64 (wrap64 (x6_1 * 64)) t265) (wrap64 ((ji18) - 1))), (ji13), (wrap64 (x19_1 + 1)), (by first | rfl | (simp; done) | (simp only [← hji18] <;> (first | rfl | simp)) | (simp [*]; done)), (by first | rfl | (simp; done) | (simp only [← hji13] <;> (first | rfl | simp)) | (simp [*]; done)), bS, H', ⟨by have := HK1.out; omega⟩, ⟨bR HO268⟩, ⟨bB⟩⟩
         rw [if_neg c16] at H
         exact absurd H (by simp)
        rw [if_neg c14] at H
        exact absurd H (by simp)
       rw [if_neg c12] at H
       have c12b0 : decide (8 ≤ (wrap64 (x7_1 + 6))) = false := decide_eq_false c12
       clear c12
       have H' := aM H
       clear H
       have p9 : 0 ≤ (x19_1 : Int) := pI
       have q9 : x19_1 < (t260.size : Int) := pI
       have hx9 := bt_at t260 x19_1
       replace p9 := eq_true p9
       replace q9 := eq_true q9
       go_wp2_with (first | ((with_reducible refine gate_callee (f := 134) rfl ?_); refine gL_ (some 25) Tryz.func134 #[.string (⟨#[65, 66, 67, 68, 69, 70, 71, 72, 73, 74, 75, 76, 77, 78, 79, 80, 81, 82, 83, 84, 85, 86, 87, 88, 89, 90, 97, 98, 99, 100, 101, 102, 103, 104, 105, 106, 107, 108, 109, 110, 111, 112, 113, 114, 115, 116, 117, 118, 119, 120, 121, 122, 48, 49, 50, 51, 52, 53, 54, 55, 56, 57, 43, 47]⟩ : ByteArray), .int .u8 (bt t260 x19_1)] ?_; (with_reducible refine (strings_IndexByte.calls (⟨#[65, 66, 67, 68, 69, 70, 71, 72, 73, 74, 75, 76, 77, 78, 79, 80, 81, 82, 83, 84, 85, 86, 87, 88, 89, 90, 97, 98, 99, 100, 101, 102, 103, 104, 105, 106, 107, 108, 109, 110, 111, 112, 113, 114, 115, 116, 117, 118, 119, 120, 121, 122, 48, 49, 50, 51, 52, 53, 54, 55, 56, 57, 43, 47]⟩ : ByteArray) (bt t260 x19_1) t265 _ A10.out).mono ?_); rintro e w' ⟨rfl, ⟨nd, rfl⟩⟩; refine ⟨_, rfl, ?_⟩))
       go_roundg k1
       case measure => have := HK1.out; omega
       case rel => exact ⟨(x5_1), (Go.bits .or .i64 (wrap64 (x6_1 * 64)) t265), (wrap64 (x7_1 + 6)), (wrap64 (x19_1 + 1)), bS, bS, bS, H', ⟨by have := HK1.out; omega⟩, ⟨bR HO_5⟩, ⟨bB⟩⟩
      rw [if_neg c8] at H
      exact absurd H (by simp)
     rw [if_neg c7] at H
     exact absurd H (by simp)
    rw [if_neg c6] at H
    have c6b0 : decide (x19_1 < (t260.size : Int)) = false := decide_eq_false c6
    clear c6
    replace H := Option.bind_eq_some_iff.mp H
    obtain ⟨t264, A200, H⟩ := H
    replace H : (some (x5_1, (t264.toList == a0.toList))) = some (r1, r2) := H
    have A20 := aM A200
    clear A200
    simp only [Option.some.injEq, Prod.mk.injEq] at H
    obtain ⟨rfl, rfl⟩ := H
    obtain ⟨Ao21, co21, eo21⟩ := Kd.R_slice HO_5.out
    subst eo21
    go_wp2_with (first | ((with_reducible refine gate_callee (f := 42) rfl ?_); refine gL_ (some 53) Tryz.func42 #[.slice Ao21 x5_1.length co21] ?_; (with_reducible refine (impl_baseText.calls _ _ x5_1 t264 _ ?side1 ?side2 A20.out).mono ?_); (case side1 => exact z4 HO_5.out); (case side2 => exact (Kd.R_reads' HO_5.out).2.1); rintro e w22 ⟨rfl, hb⟩; refine ⟨_, rfl, ?_⟩; replace HO_5 := aM (Kd.R_below (bR HO_5) hb); replace HB := aM (below_step bB hb); (try clear hi)))
    go_ret2
    exact ⟨_, bE, bR HO_5, bB⟩
 rw [if_neg c2] at H
 have c2b0 : (((a0.size : Int) % 4) == 0) = false := beq_eq_false_iff_ne.mpr c2
 have c2b1 : (((a0.size : Int) % 4) != 0) = true := bne_iff_ne.mpr c2
 simp only [Option.some.injEq, Prod.mk.injEq] at H
 obtain ⟨rfl, rfl⟩ := H
 (try simp only [c2b0, c2b1])
 go_wp2
 go_ret2
 exact ⟨_, bE, z6, bB⟩
def impl_DecodeBase.f (k : Nat) (a0 : ByteArray) : Option (Int × List Int) := if (a0.size : Int) > 1600 then (some (2, ([] : List Int))) else ((impl_baseBytes.f k a0).bind fun bt270 => (if bt270.2 = true then (if (bt270.1.length : Int) > 400 then (some (2, ([] : List Int))) else (some (0, bt270.1))) else (some (7, ([] : List Int)))))
set_option maxHeartbeats 8000000 in
set_option maxRecDepth 100000 in
theorem impl_DecodeBase.calls (k : Nat) (a0 : ByteArray) (r1 : Int) (r2 : List Int) (w : World) (h : impl_DecodeBase.f k a0 = some (r1, r2)) :
  Calls Tryz.prog 80 #[.string a0] w fun e w' => ∃ v1_ : Value, e = .returned (.agg #[.int .i64 r1, v1_]) ∧ Kd.R (Kd.int .u8) 5 w' w.heap.size (fun _ => True) v1_ r2 ∧ Below w.heap.size w w' := by
 have hu104 := Tryz.underlying104
 have HB := aM (Below.refl w.heap.size w)
 have H : (if (a0.size : Int) > 1600 then (some (2, ([] : List Int))) else ((impl_baseBytes.f k a0).bind fun bt270 => (if bt270.2 = true then (if (bt270.1.length : Int) > 400 then (some (2, ([] : List Int))) else (some (0, bt270.1))) else (some (7, ([] : List Int)))))) = some (r1, r2) := h
 clear h
 have HQ_ := aM H
 clear H
 go_enter Tryz.func80, Tryz.ntmps80
 have H := HQ_.out
 clear HQ_
 by_cases c2 : (a0.size : Int) > 1600
 ·rw [if_pos c2] at H
  have c2b0 : decide (1600 < (a0.size : Int)) = true := decide_eq_true c2
  have c2b1 : decide (1600 < a0.size) = true := decide_eq_true (by omega)
  clear c2
  simp only [Option.some.injEq, Prod.mk.injEq] at H
  obtain ⟨rfl, rfl⟩ := H
  (try simp only [c2b0, c2b1])
  go_wp2_with (first | ((with_reducible refine gate_dst (N := 2) rfl ?_); refine box_event ?hg (N := 2) ?hd (cs := #[.int .i64 0, .slice none 0 0]) (t := 104) ?hr ?_; (case hd => rfl); (case hg => rfl); (case hr => exact z10); intro gb269 hg w3 hbox hb; have BK269 := aM (hbox); have GW269 := aM ((z21 : w.heap.size ≤ gb269)); have GE269 := aM ((z21 : w.heap.size ≤ gb269)); replace HB := aM (below_step bB hb); clear hb hbox hg; have hcz4_0 : w3.cell? ⟨gb269, 0, none⟩ = some (.int .i64 0) := (blk_cell BK269.out 0).trans rfl; have hcz4_1 : w3.cell? ⟨gb269, 1, none⟩ = some (.slice none 0 0) := (blk_cell BK269.out 1).trans rfl; have hfz4_0 := blk_frozen BK269.out 0; have hfz4_1 := blk_frozen BK269.out 1))
  refine bodyPost_ret (results_cell_row rfl _ _ gb269 104 #[.int .i64 2, .slice none 0 0] (0, 0) _ rfl (z8 BK269.out) Tryz.underlying104 rfl (by kernel_rfl)) rfl ?_
  exact ⟨_, bE, z6, bG GE269⟩
 rw [if_neg c2] at H
 have c2b0 : decide (1600 < (a0.size : Int)) = false := decide_eq_false c2
 have c2b1 : decide (1600 < a0.size) = false := decide_eq_false (by omega)
 clear c2
 replace H := Option.bind_eq_some_iff.mp H
 obtain ⟨⟨t270, t271⟩, A50, H⟩ := H
 replace H : (if t271 = true then (if (t270.length : Int) > 400 then (some (2, ([] : List Int))) else (some (0, t270))) else (some (7, ([] : List Int)))) = some (r1, r2) := H
 have A5 := aM A50
 clear A50
 (try simp only [c2b0, c2b1])
 by_cases c6 : t271 = true
 ·subst c6
  have H1 : (if (t270.length : Int) > 400 then (some (2, ([] : List Int))) else (some (0, t270))) = some (r1, r2) := z16
  clear H
  have H := H1
  clear H1
  by_cases c7 : (t270.length : Int) > 400
  ·rw [if_pos c7] at H
   have c7b0 : decide (400 < (t270.length : Int)) = true := decide_eq_true c7
   have c7b1 : decide (400 < t270.length) = true := decide_eq_true (by omega)
   clear c7
   simp only [Option.some.injEq, Prod.mk.injEq] at H
   obtain ⟨rfl, rfl⟩ := H
   (try simp only [c7b0, c7b1])
   go_wp2_with (first | ((with_reducible refine gate_dst (N := 2) rfl ?_); refine box_event ?hg (N := 2) ?hd (cs := #[.int .i64 0, .slice none 0 0]) (t := 104) ?hr ?_; (case hd => rfl); (case hg => rfl); (case hr => exact z10); intro gb269 hg w8 hbox hb; have BK269 := aM (hbox); have GW269 := aM ((z21 : w.heap.size ≤ gb269)); have GE269 := aM ((z21 : w.heap.size ≤ gb269)); replace HB := aM (below_step bB hb); clear hb hbox hg) | ((with_reducible refine gate_callee (f := 111) rfl ?_); refine gL_ (some 11) Tryz.func111 #[.string a0] ?_; (with_reducible refine (impl_baseBytes.calls k a0 t270 true _ A5.out).mono ?_); rintro e w9 ⟨v272, rfl, ho0, hb⟩; refine ⟨_, rfl, ?_⟩; have HO273 := aM (Kd.R_lower ho0 (below_size (bG GE269))); replace BK269 := aM (blk_below (g := gb269) (o := .cells #[.int .i64 0, .slice none 0 0] 104 (0, 0)) (bL BK269) hb); replace HB := aM (below_step (bG GE269) hb); (try clear ho0); obtain ⟨Ao10, co10, eo10⟩ := Kd.R_slice HO273.out; subst eo10; have hcz11_0 : w9.cell? ⟨gb269, 0, none⟩ = some (.int .i64 0) := (blk_cell BK269.out 0).trans rfl; have hcz11_1 : w9.cell? ⟨gb269, 1, none⟩ = some (.slice none 0 0) := (blk_cell BK269.out 1).trans rfl; have hfz11_0 := blk_frozen BK269.out 0; have hfz11_1 := blk_frozen BK269.out 1))
   refine bodyPost_ret (results_cell_row rfl _ _ gb269 104 #[.int .i64 2, .slice none 0 0] (0, 0) _ rfl (z8 BK269.out) Tryz.underlying104 rfl (by kernel_rfl)) rfl ?_
   exact ⟨_, bE, z6, bG GE269⟩
  rw [if_neg c7] at H
  have c7b0 : decide (400 < (t270.length : Int)) = false := decide_eq_false c7
  have c7b1 : decide (400 < t270.length) = false := decide_eq_false (by omega)
  clear c7
  simp only [Option.some.injEq, Prod.mk.injEq] at H
  obtain ⟨rfl, rfl⟩ := H
  (try simp only [c7b0, c7b1])
  go_wp2_with (first | ((with_reducible refine gate_dst (N := 2) rfl ?_); refine box_event ?hg (N := 2) ?hd (cs := #[.int .i64 0, .slice none 0 0]) (t := 104) ?hr ?_; (case hd => rfl); (case hg => rfl); (case hr => exact z10); intro gb269 hg w12 hbox hb; have BK269 := aM (hbox); have GW269 := aM ((z21 : w.heap.size ≤ gb269)); have GE269 := aM ((z21 : w.heap.size ≤ gb269)); replace HB := aM (below_step bB hb); clear hb hbox hg) | ((with_reducible refine gate_callee (f := 111) rfl ?_); refine gL_ (some 11) Tryz.func111 #[.string a0] ?_; (with_reducible refine (impl_baseBytes.calls k a0 t270 true _ A5.out).mono ?_); rintro e w13 ⟨v272, rfl, ho0, hb⟩; refine ⟨_, rfl, ?_⟩; have HO273 := aM (Kd.R_lower ho0 (below_size (bG GE269))); replace BK269 := aM (blk_below (g := gb269) (o := .cells #[.int .i64 0, .slice none 0 0] 104 (0, 0)) (bL BK269) hb); replace HB := aM (below_step (bG GE269) hb); (try clear ho0); obtain ⟨Ao14, co14, eo14⟩ := Kd.R_slice HO273.out; subst eo14; have hcz15_0 : w13.cell? ⟨gb269, 0, none⟩ = some (.int .i64 0) := (blk_cell BK269.out 0).trans rfl; have hcz15_1 : w13.cell? ⟨gb269, 1, none⟩ = some (.slice none 0 0) := (blk_cell BK269.out 1).trans rfl; have hfz15_0 := blk_frozen BK269.out 0; have hfz15_1 := blk_frozen BK269.out 1))
  refine bodyPost_ret (results_cell_row rfl _ _ gb269 104 #[.int .i64 0, .slice Ao14 t270.length co14] (0, 0) _ rfl (z18 BK269.out) Tryz.underlying104 rfl (by kernel_rfl)) rfl ?_
  exact ⟨_, bE, by (with_reducible repeat (first | apply Kd.R_alloc | apply Kd.R_drewN | apply Kd.R_drew)); exact Kd.R_mono (Kd.R_far (p := ⟨gb269, 1, none⟩) (Kd.R_far (p := ⟨gb269, 0, none⟩) (Kd.R_types HO273.out BK269.out (by decide)) (fun _ hk => hk.2) (.int .i64 0)) (fun _ hk => hk.2) (.slice Ao14 t270.length co14)) (fun _ hk => trivial), bG GE269⟩
 replace c6 := Bool.eq_false_iff.mpr c6
 subst c6
 have H1 : (some (7, ([] : List Int))) = some (r1, r2) := z7
 clear H
 have H := H1
 clear H1
 simp only [Option.some.injEq, Prod.mk.injEq] at H
 obtain ⟨rfl, rfl⟩ := H
 go_wp2_with (first | ((with_reducible refine gate_dst (N := 2) rfl ?_); refine box_event ?hg (N := 2) ?hd (cs := #[.int .i64 0, .slice none 0 0]) (t := 104) ?hr ?_; (case hd => rfl); (case hg => rfl); (case hr => exact z10); intro gb269 hg w16 hbox hb; have BK269 := aM (hbox); have GW269 := aM ((z21 : w.heap.size ≤ gb269)); have GE269 := aM ((z21 : w.heap.size ≤ gb269)); replace HB := aM (below_step bB hb); clear hb hbox hg) | ((with_reducible refine gate_callee (f := 111) rfl ?_); refine gL_ (some 11) Tryz.func111 #[.string a0] ?_; (with_reducible refine (impl_baseBytes.calls k a0 t270 false _ A5.out).mono ?_); rintro e w17 ⟨v272, rfl, ho0, hb⟩; refine ⟨_, rfl, ?_⟩; have HO273 := aM (Kd.R_lower ho0 (below_size (bG GE269))); replace BK269 := aM (blk_below (g := gb269) (o := .cells #[.int .i64 0, .slice none 0 0] 104 (0, 0)) (bL BK269) hb); replace HB := aM (below_step (bG GE269) hb); (try clear ho0); have hcz18_0 : w17.cell? ⟨gb269, 0, none⟩ = some (.int .i64 0) := (blk_cell BK269.out 0).trans rfl; have hcz18_1 : w17.cell? ⟨gb269, 1, none⟩ = some (.slice none 0 0) := (blk_cell BK269.out 1).trans rfl; have hfz18_0 := blk_frozen BK269.out 0; have hfz18_1 := blk_frozen BK269.out 1))
 refine bodyPost_ret (results_cell_row rfl _ _ gb269 104 #[.int .i64 7, .slice none 0 0] (0, 0) _ rfl (by (with_reducible repeat (first | refine blk_drewN ?_ _ | refine blk_drew ?_ | refine blk_alloc ?_ _)); refine blk_put (cs := #[.int .i64 7, .slice none 0 0]) ?_ 1 _ rfl; (with_reducible repeat (first | refine blk_drewN ?_ _ | refine blk_drew ?_ | refine blk_alloc ?_ _)); refine blk_put (cs := #[.int .i64 0, .slice none 0 0]) ?_ 0 _ rfl; (with_reducible repeat (first | refine blk_drewN ?_ _ | refine blk_drew ?_ | refine blk_alloc ?_ _)); exact BK269.out) Tryz.underlying104 rfl (by kernel_rfl)) rfl ?_
 exact ⟨_, bE, z6, bG GE269⟩
def impl_isSeen.f (a0 : Int) : Option (Bool) := if a0 ≥ 33 then (if a0 ≤ 126 then (some (a0 != 61)) else (some false)) else (some false)
set_option maxHeartbeats 8000000 in
set_option maxRecDepth 100000 in
theorem impl_isSeen.calls (a0 : Int) (r : Bool) (w : World) (h : impl_isSeen.f a0 = some r) :
  Calls Tryz.prog 112 #[.int .u8 a0] w fun e w' => e = .returned (.bool r) ∧ Drawn0 w w' := by
 have H : (if a0 ≥ 33 then (if a0 ≤ 126 then (some (a0 != 61)) else (some false)) else (some false)) = some r := h
 clear h
 by_cases c2 : a0 ≥ 33
 ·rw [if_pos c2] at H
  have c2b0 : decide (33 ≤ a0) = true := decide_eq_true c2
  clear c2
  by_cases c3 : a0 ≤ 126
  ·rw [if_pos c3] at H
   have c3b0 : decide (a0 ≤ 126) = true := decide_eq_true c3
   clear c3
   obtain rfl := Option.some.inj H
   go_enter Tryz.func112, Tryz.ntmps112
   go_wp2
   go_ret
   exact ⟨bS, z5⟩
  rw [if_neg c3] at H
  have c3b0 : decide (a0 ≤ 126) = false := decide_eq_false c3
  clear c3
  obtain rfl := Option.some.inj H
  go_enter Tryz.func112, Tryz.ntmps112
  go_wp2
  go_ret
  exact ⟨bS, z5⟩
 rw [if_neg c2] at H
 have c2b0 : decide (33 ≤ a0) = false := decide_eq_false c2
 clear c2
 obtain rfl := Option.some.inj H
 go_enter Tryz.func112, Tryz.ntmps112
 go_wp2
 go_ret
 exact ⟨bS, z5⟩
def impl_hexByte.f (a0 : ByteArray) (a1 : Int) : Option (Int × Bool) := if (wrap64 (a1 + 2)) > (a0.size : Int) then (some (0, false)) else (if 0 ≤ a1 then (if a1 < (a0.size : Int) then ((strings_IndexByte.f (⟨#[48, 49, 50, 51, 52, 53, 54, 55, 56, 57, 65, 66, 67, 68, 69, 70]⟩ : ByteArray) (bt a0 a1)).bind fun t274 => (if 0 ≤ (wrap64 (a1 + 1)) then (if (wrap64 (a1 + 1)) < (a0.size : Int) then ((strings_IndexByte.f (⟨#[48, 49, 50, 51, 52, 53, 54, 55, 56, 57, 65, 66, 67, 68, 69, 70]⟩ : ByteArray) (bt a0 (wrap64 (a1 + 1)))).bind fun t275 => (if t274 ≥ 0 then (some ((Go.bits .or .i64 (wrap64 (t274 * 16)) t275) % 256, decide (t275 ≥ 0))) else (some ((Go.bits .or .i64 (wrap64 (t274 * 16)) t275) % 256, false)))) else (none)) else (none))) else (none)) else (none))
set_option maxHeartbeats 8000000 in
set_option maxRecDepth 100000 in
theorem impl_hexByte.calls (a0 : ByteArray) (a1 : Int) (r1 : Int) (r2 : Bool) (w : World) (h : impl_hexByte.f a0 a1 = some (r1, r2)) :
  Calls Tryz.prog 113 #[.string a0, .int .i64 a1] w fun e w' => e = .returned (.tuple #[.int .u8 r1, .bool r2]) ∧ Drawn0 w w' := by
 have H : (if (wrap64 (a1 + 2)) > (a0.size : Int) then (some (0, false)) else (if 0 ≤ a1 then (if a1 < (a0.size : Int) then ((strings_IndexByte.f (⟨#[48, 49, 50, 51, 52, 53, 54, 55, 56, 57, 65, 66, 67, 68, 69, 70]⟩ : ByteArray) (bt a0 a1)).bind fun t274 => (if 0 ≤ (wrap64 (a1 + 1)) then (if (wrap64 (a1 + 1)) < (a0.size : Int) then ((strings_IndexByte.f (⟨#[48, 49, 50, 51, 52, 53, 54, 55, 56, 57, 65, 66, 67, 68, 69, 70]⟩ : ByteArray) (bt a0 (wrap64 (a1 + 1)))).bind fun t275 => (if t274 ≥ 0 then (some ((Go.bits .or .i64 (wrap64 (t274 * 16)) t275) % 256, decide (t275 ≥ 0))) else (some ((Go.bits .or .i64 (wrap64 (t274 * 16)) t275) % 256, false)))) else (none)) else (none))) else (none)) else (none))) = some (r1, r2) := h
 clear h
 by_cases c3 : (wrap64 (a1 + 2)) > (a0.size : Int)
 ·rw [if_pos c3] at H
  have c3b0 : decide ((a0.size : Int) < (wrap64 (a1 + 2))) = true := decide_eq_true c3
  clear c3
  simp only [Option.some.injEq, Prod.mk.injEq] at H
  obtain ⟨rfl, rfl⟩ := H
  go_enter Tryz.func113, Tryz.ntmps113
  go_wp2
  repeat (go_quiet (fail); try go_wp2)
  go_ret2
  exact ⟨bS, z5⟩
 rw [if_neg c3] at H
 have c3b0 : decide ((a0.size : Int) < (wrap64 (a1 + 2))) = false := decide_eq_false c3
 clear c3
 by_cases c4 : 0 ≤ a1
 ·rw [if_pos c4] at H
  have c4b0 : decide (0 ≤ a1) = true := decide_eq_true c4
  clear c4
  by_cases c5 : a1 < (a0.size : Int)
  ·rw [if_pos c5] at H
   have c5b0 : decide (a1 < (a0.size : Int)) = true := decide_eq_true c5
   clear c5
   replace H := Option.bind_eq_some_iff.mp H
   obtain ⟨t274, A70, H⟩ := H
   replace H : (if 0 ≤ (wrap64 (a1 + 1)) then (if (wrap64 (a1 + 1)) < (a0.size : Int) then ((strings_IndexByte.f (⟨#[48, 49, 50, 51, 52, 53, 54, 55, 56, 57, 65, 66, 67, 68, 69, 70]⟩ : ByteArray) (bt a0 (wrap64 (a1 + 1)))).bind fun t275 => (if t274 ≥ 0 then (some ((Go.bits .or .i64 (wrap64 (t274 * 16)) t275) % 256, decide (t275 ≥ 0))) else (some ((Go.bits .or .i64 (wrap64 (t274 * 16)) t275) % 256, false)))) else (none)) else (none)) = some (r1, r2) := H
   have A7 := aM A70
   clear A70
   obtain ⟨ji8, hji8⟩ : ∃ j_ : Int, (wrap64 (a1 + 1)) = j_ := ⟨_, rfl⟩
   replace H : (if 0 ≤ (ji8) then (if (ji8) < (a0.size : Int) then ((strings_IndexByte.f (⟨#[48, 49, 50, 51, 52, 53, 54, 55, 56, 57, 65, 66, 67, 68, 69, 70]⟩ : ByteArray) (bt a0 (ji8))).bind fun t275 => (if t274 ≥ 0 then (some ((Go.bits .or .i64 (wrap64 (t274 * 16)) t275) % 256, decide (t275 ≥ 0))) else (some ((Go.bits .or .i64 (wrap64 (t274 * 16)) t275) % 256, false)))) else (none)) else (none)) = some (r1, r2) := z52
   (try rw [hji8] at A7)
   have hji8w : (IntKind.i64.wrap (a1 + 1)) = ji8 := (i64_w _).trans hji8
   by_cases c9 : 0 ≤ (ji8)
   ·rw [if_pos c9] at H
    have c9b0 : decide (0 ≤ (ji8)) = true := decide_eq_true c9
    clear c9
    by_cases c10 : (ji8) < (a0.size : Int)
    ·rw [if_pos c10] at H
     have c10b0 : decide ((ji8) < (a0.size : Int)) = true := decide_eq_true c10
     clear c10
     replace H := Option.bind_eq_some_iff.mp H
     obtain ⟨t275, A120, H⟩ := H
     replace H : (if t274 ≥ 0 then (some ((Go.bits .or .i64 (wrap64 (t274 * 16)) t275) % 256, decide (t275 ≥ 0))) else (some ((Go.bits .or .i64 (wrap64 (t274 * 16)) t275) % 256, false))) = some (r1, r2) := H
     have A12 := aM A120
     clear A120
     by_cases c13 : t274 ≥ 0
     ·rw [if_pos c13] at H
      have c13b0 : decide (0 ≤ t274) = true := decide_eq_true c13
      clear c13
      simp only [Option.some.injEq, Prod.mk.injEq] at H
      obtain ⟨rfl, rfl⟩ := H
      have p6 : 0 ≤ (a1 : Int) := pI
      have q6 : a1 < (a0.size : Int) := pI
      have hx6 := bt_at a0 a1
      replace p6 := eq_true p6
      replace q6 := eq_true q6
      go_enter Tryz.func113, Tryz.ntmps113
      iterate 8 (go_wp2_with (first | (go_at_call 134; (with_reducible refine (strings_IndexByte.calls (⟨#[48, 49, 50, 51, 52, 53, 54, 55, 56, 57, 65, 66, 67, 68, 69, 70]⟩ : ByteArray) (bt a0 a1) t274 _ A7.out).mono ?_); rintro e w' ⟨rfl, ⟨nd, rfl⟩⟩; (try first | exact ⟨rfl, _, World.drewN_drewN _ _ _⟩ | exact ⟨rfl, _, Eq.trans (World.drewN_drewN _ _ _) (congrArg (World.drewN _) (Nat.add_assoc _ _ _))⟩); have p11 : 0 ≤ ((ji8) : Int) := pI; have q11 : (ji8) < (a0.size : Int) := pI; have hx11 := bt_at a0 (ji8); replace p11 := eq_true p11; replace q11 := eq_true q11) | (go_at_call 134; (with_reducible refine (strings_IndexByte.calls (⟨#[48, 49, 50, 51, 52, 53, 54, 55, 56, 57, 65, 66, 67, 68, 69, 70]⟩ : ByteArray) (bt a0 (ji8)) t275 _ A12.out).mono ?_); rintro e w' ⟨rfl, ⟨nd, rfl⟩⟩; (try first | exact ⟨rfl, _, World.drewN_drewN _ _ _⟩ | exact ⟨rfl, _, Eq.trans (World.drewN_drewN _ _ _) (congrArg (World.drewN _) (Nat.add_assoc _ _ _))⟩))); try go_quiet (first | (go_at_call 134; (with_reducible refine (strings_IndexByte.calls (⟨#[48, 49, 50, 51, 52, 53, 54, 55, 56, 57, 65, 66, 67, 68, 69, 70]⟩ : ByteArray) (bt a0 a1) t274 _ A7.out).mono ?_); rintro e w' ⟨rfl, ⟨nd, rfl⟩⟩; (try first | exact ⟨rfl, _, World.drewN_drewN _ _ _⟩ | exact ⟨rfl, _, Eq.trans (World.drewN_drewN _ _ _) (congrArg (World.drewN _) (Nat.add_assoc _ _ _))⟩); have p11 : 0 ≤ ((ji8) : Int) := pI; have q11 : (ji8) < (a0.size : Int) := pI; have hx11 := bt_at a0 (ji8); replace p11 := eq_true p11; replace q11 := eq_true q11) | (go_at_call 134; (with_reducible refine (strings_IndexByte.calls (⟨#[48, 49, 50, 51, 52, 53, 54, 55, 56, 57, 65, 66, 67, 68, 69, 70]⟩ : ByteArray) (bt a0 (ji8)) t275 _ A12.out).mono ?_); rintro e w' ⟨rfl, ⟨nd, rfl⟩⟩; (try first | exact ⟨rfl, _, World.drewN_drewN _ _ _⟩ | exact ⟨rfl, _, Eq.trans (World.drewN_drewN _ _ _) (congrArg (World.drewN _) (Nat.add_assoc _ _ _))⟩))))
      go_ret2
      exact ⟨z49, z5⟩
     rw [if_neg c13] at H
     have c13b0 : decide (0 ≤ t274) = false := decide_eq_false c13
     clear c13
     simp only [Option.some.injEq, Prod.mk.injEq] at H
     obtain ⟨rfl, rfl⟩ := H
     have p6 : 0 ≤ (a1 : Int) := pI
     have q6 : a1 < (a0.size : Int) := pI
     have hx6 := bt_at a0 a1
     replace p6 := eq_true p6
     replace q6 := eq_true q6
     go_enter Tryz.func113, Tryz.ntmps113
     iterate 8 (go_wp2_with (first | (go_at_call 134; (with_reducible refine (strings_IndexByte.calls (⟨#[48, 49, 50, 51, 52, 53, 54, 55, 56, 57, 65, 66, 67, 68, 69, 70]⟩ : ByteArray) (bt a0 a1) t274 _ A7.out).mono ?_); rintro e w' ⟨rfl, ⟨nd, rfl⟩⟩; (try first | exact ⟨rfl, _, World.drewN_drewN _ _ _⟩ | exact ⟨rfl, _, Eq.trans (World.drewN_drewN _ _ _) (congrArg (World.drewN _) (Nat.add_assoc _ _ _))⟩); have p11 : 0 ≤ ((ji8) : Int) := pI; have q11 : (ji8) < (a0.size : Int) := pI; have hx11 := bt_at a0 (ji8); replace p11 := eq_true p11; replace q11 := eq_true q11) | (go_at_call 134; (with_reducible refine (strings_IndexByte.calls (⟨#[48, 49, 50, 51, 52, 53, 54, 55, 56, 57, 65, 66, 67, 68, 69, 70]⟩ : ByteArray) (bt a0 (ji8)) t275 _ A12.out).mono ?_); rintro e w' ⟨rfl, ⟨nd, rfl⟩⟩; (try first | exact ⟨rfl, _, World.drewN_drewN _ _ _⟩ | exact ⟨rfl, _, Eq.trans (World.drewN_drewN _ _ _) (congrArg (World.drewN _) (Nat.add_assoc _ _ _))⟩))); try go_quiet (first | (go_at_call 134; (with_reducible refine (strings_IndexByte.calls (⟨#[48, 49, 50, 51, 52, 53, 54, 55, 56, 57, 65, 66, 67, 68, 69, 70]⟩ : ByteArray) (bt a0 a1) t274 _ A7.out).mono ?_); rintro e w' ⟨rfl, ⟨nd, rfl⟩⟩; (try first | exact ⟨rfl, _, World.drewN_drewN _ _ _⟩ | exact ⟨rfl, _, Eq.trans (World.drewN_drewN _ _ _) (congrArg (World.drewN _) (Nat.add_assoc _ _ _))⟩); have p11 : 0 ≤ ((ji8) : Int) := pI; have q11 : (ji8) < (a0.size : Int) := pI; have hx11 := bt_at a0 (ji8); replace p11 := eq_true p11; replace q11 := eq_true q11) | (go_at_call 134; (with_reducible refine (strings_IndexByte.calls (⟨#[48, 49, 50, 51, 52, 53, 54, 55, 56, 57, 65, 66, 67, 68, 69, 70]⟩ : ByteArray) (bt a0 (ji8)) t275 _ A12.out).mono ?_); rintro e w' ⟨rfl, ⟨nd, rfl⟩⟩; (try first | exact ⟨rfl, _, World.drewN_drewN _ _ _⟩ | exact ⟨rfl, _, Eq.trans (World.drewN_drewN _ _ _) (congrArg (World.drewN _) (Nat.add_assoc _ _ _))⟩))))
     go_ret2
     exact ⟨z49, z5⟩
    rw [if_neg c10] at H
    exact absurd H (by simp)
   rw [if_neg c9] at H
   exact absurd H (by simp)
  rw [if_neg c5] at H
  exact absurd H (by simp)
 rw [if_neg c4] at H
 exact absurd H (by simp)
def impl_quotedWord.l0 : Nat → ByteArray → List Int → Int → Option (List Int × Bool)
 | 0, _, _, _ => none
 | k + 1, x0, x4, x5 => if x5 < (x0.size : Int) then (if 0 ≤ x5 then (if (bt x0 x5) = 95 then (if x4.length < 140737488355328 then (impl_quotedWord.l0 k x0 (x4 ++ [32]) (wrap64 (x5 + 1))) else (none)) else ((impl_isSeen.f (bt x0 x5)).bind fun t282 => (if t282 = true then (if x4.length < 140737488355328 then (impl_quotedWord.l0 k x0 (x4 ++ [bt x0 x5]) (wrap64 (x5 + 1))) else (none)) else ((impl_hexByte.f x0 (wrap64 (x5 + 1))).bind fun bt286 => (if (bt x0 x5) = 61 then (if bt286.2 = true then (if x4.length < 140737488355328 then (impl_quotedWord.l0 k x0 (x4 ++ [bt286.1]) (wrap64 ((wrap64 (x5 + 2)) + 1))) else (none)) else (some (([] : List Int), false))) else (some (([] : List Int), false))))))) else (none)) else (some (x4, true))
def impl_quotedWord.f (k : Nat) (a0 : ByteArray) : Option (List Int × Bool) := impl_quotedWord.l0 k a0 (([] : List Int)) 0
set_option maxHeartbeats 8000000 in
set_option maxRecDepth 100000 in
theorem impl_quotedWord.calls (k : Nat) (a0 : ByteArray) (r1 : List Int) (r2 : Bool) (w : World) (h : impl_quotedWord.f k a0 = some (r1, r2)) :
  Calls Tryz.prog 81 #[.string a0] w fun e w' => ∃ v0_ : Value, e = .returned (.tuple #[v0_, .bool r2]) ∧ Kd.R (Kd.int .u8) 5 w' w.heap.size (fun _ => True) v0_ r1 ∧ Below w.heap.size w w' := by
 have HB := aM (Below.refl w.heap.size w)
 have H : (impl_quotedWord.l0 k a0 (([] : List Int)) 0) = some (r1, r2) := h
 clear h
 obtain ⟨y276, hy276⟩ : ∃ y_ : List Int, y_ = (([] : List Int)) := ⟨_, rfl⟩
 replace H : (impl_quotedWord.l0 k a0 y276 0) = some (r1, r2) := z0 hy276
 have Ny276 := aM hy276
 clear hy276
 have H' := aM H
 clear H
 go_enter Tryz.func81, Tryz.ntmps81
 go_wp2_with (first | ((with_reducible refine gate_dst (N := 9) rfl ?_); refine Kd.R_lit (Kd.int .u8) _ 5 ?hg (N := 9) ?hd (xs := ([] : List Int)) (inner := []) (ok := fun _ => True) (okp := fun _ => True) ?hr ?hp (fun _ hk => hk) trivial (Below.refl _ _) (Nat.le_refl _) (by simp) ?_; (case hd => rfl); (case hg => rfl); (case hr => exact z10); (case hp => exact (Reps.none _ _)); intro v277 w2 ho3 hb hg_ hnew_; clear hg_ hnew_; (first | rw [← Ny276.out] at ho3 | (simp only [Int.reduceToNat] at ho3; rw [← Ny276.out] at ho3)); have HO278 := aM (Kd.R_lower ho3 (below_size bB)); replace HB := aM (below_step bB hb); clear hb ho3))
 go_loopg [4, 5] k (fun kq v4 v5 w' => ∃ (x4_1 : List Int) (x5_1 : Int), v5 = .int .i64 x5_1 ∧ Aside0 (impl_quotedWord.l0 kq a0 x4_1 x5_1 = some (r1, r2)) ∧ Aside0 (kq ≤ k) ∧ Aside0 (Kd.R (Kd.int .u8) 5 w' w.heap.size (fun _ => True) v4 x4_1) ∧ Aside0 (Below w.heap.size w w'))
 case atStart => exact ⟨(y276), (0), bS, H', ⟨Nat.le_refl _⟩, ⟨bR HO278⟩, ⟨bB⟩⟩
 case round =>
  clear H'
  try clear p2
  obtain ⟨x4_1, x5_1, rfl, HA, HK1, HO_4, HB⟩ := hrel
  cases gk with
  | zero => exact absurd HA.out (by simp [impl_quotedWord.l0])
  | succ k1 =>
   have H := HA.out
   clear HA
   simp only [impl_quotedWord.l0] at H
   by_cases c4 : x5_1 < (a0.size : Int)
   ·rw [if_pos c4] at H
    have c4b0 : decide (x5_1 < (a0.size : Int)) = true := decide_eq_true c4
    clear c4
    by_cases c5 : 0 ≤ x5_1
    ·rw [if_pos c5] at H
     have c5b0 : decide (0 ≤ x5_1) = true := decide_eq_true c5
     clear c5
     have HQ_ := aM H
     clear H
     have p6 : 0 ≤ (x5_1 : Int) := pI
     have q6 : x5_1 < (a0.size : Int) := pI
     have hx6 := bt_at a0 x5_1
     replace p6 := eq_true p6
     replace q6 := eq_true q6
     have H := HQ_.out
     clear HQ_
     by_cases c7 : (bt a0 x5_1) = 95
     ·rw [if_pos c7] at H
      have c7b0 : ((bt a0 x5_1) == 95) = true := beq_iff_eq.mpr c7
      have c7b1 : ((bt a0 x5_1) != 95) = false := bne_eq_false_iff_eq.mpr c7
      clear c7
      (try simp only [c7b0, c7b1])
      by_cases c8 : x4_1.length < 140737488355328
      ·rw [if_pos c8] at H
       have LMc8 := aM c8
       clear c8
       obtain ⟨y279, hy279⟩ : ∃ y_ : List Int, y_ = (x4_1 ++ [32]) := ⟨_, rfl⟩
       replace H : (impl_quotedWord.l0 k1 a0 y279 (wrap64 (x5_1 + 1))) = some (r1, r2) := z0 hy279
       have Ny279 := aM hy279
       clear hy279
       have H' := aM H
       clear H
       go_wp2_with (first | ((with_reducible refine gate_builtin (b := .append) (xs := #[.tmp 41, .tmp 42]) rfl ?_); at_builtin; refine Kd.R_append (Kd.int .u8) (w0 := w) w.heap.size rfl (.tmp 41) (.tmp 42) 22 5 (.int .u8 0) 1 rfl Tryz.underlying22 info5 rfl (by decide) (by omega) u4 x4_1 32 [.int .u8 32] (fun _ => True) (fun _ => False) rfl rfl ?aP (fun _ hk => hk.elim) ?aF ?aO ?aB ?aS ?aL ?_; (case aP => exact rfl); (case aB => exact bB); (case aF => exact (fun _ _ => trivial)); (case aO => exact (bR HO_4)); (case aS => exact (below_size bB)); (case aL => have := LMc8.out; omega); intro v280 w9 ho hb hg hat; rw [← Ny279.out] at ho; have n0_ := aM (hb); have n1_ := aM (ho); clear HB; clear HO_4; have HB := n0_; have HO281 := n1_; clear n0_ n1_; clear ho hb hg hat))
       go_roundg k1
       case measure => have := HK1.out; omega
       case rel => exact ⟨(y279), (wrap64 (x5_1 + 1)), bS, H', ⟨by have := HK1.out; omega⟩, ⟨bR HO281⟩, ⟨bB⟩⟩
      rw [if_neg c8] at H
      exact absurd H (by simp)
     rw [if_neg c7] at H
     have c7b0 : ((bt a0 x5_1) == 95) = false := beq_eq_false_iff_ne.mpr c7
     have c7b1 : ((bt a0 x5_1) != 95) = true := bne_iff_ne.mpr c7
     replace H := Option.bind_eq_some_iff.mp H
     obtain ⟨t282, A100, H⟩ := H
     replace H : (if t282 = true then (if x4_1.length < 140737488355328 then (impl_quotedWord.l0 k1 a0 (x4_1 ++ [bt a0 x5_1]) (wrap64 (x5_1 + 1))) else (none)) else ((impl_hexByte.f a0 (wrap64 (x5_1 + 1))).bind fun bt286 => (if (bt a0 x5_1) = 61 then (if bt286.2 = true then (if x4_1.length < 140737488355328 then (impl_quotedWord.l0 k1 a0 (x4_1 ++ [bt286.1]) (wrap64 ((wrap64 (x5_1 + 2)) + 1))) else (none)) else (some (([] : List Int), false))) else (some (([] : List Int), false))))) = some (r1, r2) := H
     have A10 := aM A100
     clear A100
     (try simp only [c7b0, c7b1])
     by_cases c11 : t282 = true
     ·subst c11
      have H1 : (if x4_1.length < 140737488355328 then (impl_quotedWord.l0 k1 a0 (x4_1 ++ [bt a0 x5_1]) (wrap64 (x5_1 + 1))) else (none)) = some (r1, r2) := z16
      clear H
      have H := H1
      clear H1
      by_cases c12 : x4_1.length < 140737488355328
      ·rw [if_pos c12] at H
       have LMc12 := aM c12
       clear c12
       obtain ⟨y283, hy283⟩ : ∃ y_ : List Int, y_ = (x4_1 ++ [bt a0 x5_1]) := ⟨_, rfl⟩
       replace H : (impl_quotedWord.l0 k1 a0 y283 (wrap64 (x5_1 + 1))) = some (r1, r2) := z0 hy283
       have Ny283 := aM hy283
       clear hy283
       have H' := aM H
       clear H
       go_wp2_with (first | ((with_reducible refine gate_callee (f := 112) rfl ?_); refine gL_ (some 46) Tryz.func112 #[.int .u8 (bt a0 x5_1)] ?_; (with_reducible refine (impl_isSeen.calls (bt a0 x5_1) true _ A10.out).mono ?_); rintro e w' ⟨rfl, ⟨nd, rfl⟩⟩; refine ⟨_, rfl, ?_⟩) | ((with_reducible refine gate_builtin (b := .append) (xs := #[.tmp 47, .tmp 49]) rfl ?_); at_builtin; refine Kd.R_append (Kd.int .u8) (w0 := w) w.heap.size rfl (.tmp 47) (.tmp 49) 22 5 (.int .u8 0) 1 rfl Tryz.underlying22 info5 rfl (by decide) (by omega) u4 x4_1 (bt a0 x5_1) [.int .u8 (bt a0 x5_1)] (fun _ => True) (fun _ => False) rfl rfl ?aP (fun _ hk => hk.elim) ?aF ?aO ?aB ?aS ?aL ?_; (case aP => exact rfl); (case aB => exact bB); (case aF => exact (fun _ _ => trivial)); (case aO => exact (bR HO_4)); (case aS => exact (below_size bB)); (case aL => have := LMc12.out; omega); intro v284 w13 ho hb hg hat; rw [← Ny283.out] at ho; have n0_ := aM (hb); have n1_ := aM (ho); clear HB; clear HO_4; have HB := n0_; have HO285 := n1_; clear n0_ n1_; clear ho hb hg hat))
       go_roundg k1
       case measure => have := HK1.out; omega
       case rel => exact ⟨(y283), (wrap64 (x5_1 + 1)), bS, H', ⟨by have := HK1.out; omega⟩, ⟨bR HO285⟩, ⟨bB⟩⟩
      rw [if_neg c12] at H
      exact absurd H (by simp)
     replace c11 := Bool.eq_false_iff.mpr c11
     subst c11
     have H1 : ((impl_hexByte.f a0 (wrap64 (x5_1 + 1))).bind fun bt286 => (if (bt a0 x5_1) = 61 then (if bt286.2 = true then (if x4_1.length < 140737488355328 then (impl_quotedWord.l0 k1 a0 (x4_1 ++ [bt286.1]) (wrap64 ((wrap64 (x5_1 + 2)) + 1))) else (none)) else (some (([] : List Int), false))) else (some (([] : List Int), false)))) = some (r1, r2) := z7
     clear H
     have H := H1
     clear H1
     replace H := Option.bind_eq_some_iff.mp H
     obtain ⟨⟨t286, t287⟩, A140, H⟩ := H
     replace H : (if (bt a0 x5_1) = 61 then (if t287 = true then (if x4_1.length < 140737488355328 then (impl_quotedWord.l0 k1 a0 (x4_1 ++ [t286]) (wrap64 ((wrap64 (x5_1 + 2)) + 1))) else (none)) else (some (([] : List Int), false))) else (some (([] : List Int), false))) = some (r1, r2) := H
     have A14 := aM A140
     clear A140
     by_cases c15 : (bt a0 x5_1) = 61
     ·rw [if_pos c15] at H
      have c15b0 : ((bt a0 x5_1) == 61) = true := beq_iff_eq.mpr c15
      have c15b1 : ((bt a0 x5_1) != 61) = false := bne_eq_false_iff_eq.mpr c15
      clear c15
      (try simp only [c15b0, c15b1])
      by_cases c16 : t287 = true
      ·subst c16
       have H1 : (if x4_1.length < 140737488355328 then (impl_quotedWord.l0 k1 a0 (x4_1 ++ [t286]) (wrap64 ((wrap64 (x5_1 + 2)) + 1))) else (none)) = some (r1, r2) := z16
       clear H
       have H := H1
       clear H1
       by_cases c17 : x4_1.length < 140737488355328
       ·rw [if_pos c17] at H
        have LMc17 := aM c17
        clear c17
        obtain ⟨y288, hy288⟩ : ∃ y_ : List Int, y_ = (x4_1 ++ [t286]) := ⟨_, rfl⟩
        replace H : (impl_quotedWord.l0 k1 a0 y288 (wrap64 ((wrap64 (x5_1 + 2)) + 1))) = some (r1, r2) := z0 hy288
        have Ny288 := aM hy288
        clear hy288
        have H' := aM H
        clear H
        go_wp2_with (first | ((with_reducible refine gate_callee (f := 112) rfl ?_); refine gL_ (some 46) Tryz.func112 #[.int .u8 (bt a0 x5_1)] ?_; (with_reducible refine (impl_isSeen.calls (bt a0 x5_1) false _ A10.out).mono ?_); rintro e w' ⟨rfl, ⟨nd, rfl⟩⟩; refine ⟨_, rfl, ?_⟩) | ((with_reducible refine gate_callee (f := 113) rfl ?_); refine gL_ (some 23) Tryz.func113 #[.string a0, .int .i64 (wrap64 (x5_1 + 1))] ?_; (with_reducible refine (impl_hexByte.calls a0 (wrap64 (x5_1 + 1)) t286 true _ A14.out).mono ?_); rintro e w' ⟨rfl, ⟨nd, rfl⟩⟩; refine ⟨_, rfl, ?_⟩) | ((with_reducible refine gate_builtin (b := .append) (xs := #[.tmp 32, .tmp 34]) rfl ?_); at_builtin; refine Kd.R_append (Kd.int .u8) (w0 := w) w.heap.size rfl (.tmp 32) (.tmp 34) 22 5 (.int .u8 0) 1 rfl Tryz.underlying22 info5 rfl (by decide) (by omega) u4 x4_1 t286 [.int .u8 t286] (fun _ => True) (fun _ => False) rfl rfl ?aP (fun _ hk => hk.elim) ?aF ?aO ?aB ?aS ?aL ?_; (case aP => exact rfl); (case aB => exact bB); (case aF => exact (fun _ _ => trivial)); (case aO => exact (bR HO_4)); (case aS => exact (below_size bB)); (case aL => have := LMc17.out; omega); intro v289 w18 ho hb hg hat; rw [← Ny288.out] at ho; have n0_ := aM (hb); have n1_ := aM (ho); clear HB; clear HO_4; have HB := n0_; have HO290 := n1_; clear n0_ n1_; clear ho hb hg hat))
        go_roundg k1
        case measure => have := HK1.out; omega
        case rel => exact ⟨(y288), (wrap64 ((wrap64 (x5_1 + 2)) + 1)), bS, H', ⟨by have := HK1.out; omega⟩, ⟨bR HO290⟩, ⟨bB⟩⟩
       rw [if_neg c17] at H
       exact absurd H (by simp)
      replace c16 := Bool.eq_false_iff.mpr c16
      subst c16
      have H1 : (some (([] : List Int), false)) = some (r1, r2) := z7
      clear H
      have H := H1
      clear H1
      simp only [Option.some.injEq, Prod.mk.injEq] at H
      obtain ⟨rfl, rfl⟩ := H
      go_wp2_with (first | ((with_reducible refine gate_callee (f := 112) rfl ?_); refine gL_ (some 46) Tryz.func112 #[.int .u8 (bt a0 x5_1)] ?_; (with_reducible refine (impl_isSeen.calls (bt a0 x5_1) false _ A10.out).mono ?_); rintro e w' ⟨rfl, ⟨nd, rfl⟩⟩; refine ⟨_, rfl, ?_⟩) | ((with_reducible refine gate_callee (f := 113) rfl ?_); refine gL_ (some 23) Tryz.func113 #[.string a0, .int .i64 (wrap64 (x5_1 + 1))] ?_; (with_reducible refine (impl_hexByte.calls a0 (wrap64 (x5_1 + 1)) t286 false _ A14.out).mono ?_); rintro e w' ⟨rfl, ⟨nd, rfl⟩⟩; refine ⟨_, rfl, ?_⟩))
      go_ret2
      exact ⟨_, bE, z6, bB⟩
     rw [if_neg c15] at H
     have c15b0 : ((bt a0 x5_1) == 61) = false := beq_eq_false_iff_ne.mpr c15
     have c15b1 : ((bt a0 x5_1) != 61) = true := bne_iff_ne.mpr c15
     simp only [Option.some.injEq, Prod.mk.injEq] at H
     obtain ⟨rfl, rfl⟩ := H
     (try simp only [c15b0, c15b1])
     go_wp2_with (first | ((with_reducible refine gate_callee (f := 112) rfl ?_); refine gL_ (some 46) Tryz.func112 #[.int .u8 (bt a0 x5_1)] ?_; (with_reducible refine (impl_isSeen.calls (bt a0 x5_1) false _ A10.out).mono ?_); rintro e w' ⟨rfl, ⟨nd, rfl⟩⟩; refine ⟨_, rfl, ?_⟩) | ((with_reducible refine gate_callee (f := 113) rfl ?_); refine gL_ (some 23) Tryz.func113 #[.string a0, .int .i64 (wrap64 (x5_1 + 1))] ?_; (with_reducible refine (impl_hexByte.calls a0 (wrap64 (x5_1 + 1)) t286 t287 _ A14.out).mono ?_); rintro e w' ⟨rfl, ⟨nd, rfl⟩⟩; refine ⟨_, rfl, ?_⟩))
     go_ret2
     exact ⟨_, bE, z6, bB⟩
    rw [if_neg c5] at H
    exact absurd H (by simp)
   rw [if_neg c4] at H
   have c4b0 : decide (x5_1 < (a0.size : Int)) = false := decide_eq_false c4
   clear c4
   simp only [Option.some.injEq, Prod.mk.injEq] at H
   obtain ⟨rfl, rfl⟩ := H
   go_wp2
   go_ret2
   exact ⟨_, bE, bR HO_4, bB⟩
def impl_within.f (a0 : Int) (a1 : Int) (a2 : Int) : Option (Bool) := if a0 ≥ a1 then (some (decide (a0 ≤ a2))) else (some false)
set_option maxHeartbeats 8000000 in
set_option maxRecDepth 100000 in
theorem impl_within.calls (a0 : Int) (a1 : Int) (a2 : Int) (r : Bool) (w : World) (h : impl_within.f a0 a1 a2 = some r) :
  Calls Tryz.prog 40 #[.int .i64 a0, .int .i64 a1, .int .i64 a2] w fun e w' => e = .returned (.bool r) ∧ Drawn0 w w' := by
 have H : (if a0 ≥ a1 then (some (decide (a0 ≤ a2))) else (some false)) = some r := h
 clear h
 by_cases c4 : a0 ≥ a1
 ·rw [if_pos c4] at H
  have c4b0 : decide (a1 ≤ a0) = true := decide_eq_true c4
  clear c4
  obtain rfl := Option.some.inj H
  go_enter Tryz.func40, Tryz.ntmps40
  go_wp2
  go_ret
  exact ⟨bS, z5⟩
 rw [if_neg c4] at H
 have c4b0 : decide (a1 ≤ a0) = false := decide_eq_false c4
 clear c4
 obtain rfl := Option.some.inj H
 go_enter Tryz.func40, Tryz.ntmps40
 go_wp2
 go_ret
 exact ⟨bS, z5⟩
def impl_isCharset.f (a0 : Int) : Option (Bool) := (impl_within.f a0 1 5).bind fun t291 => (some t291)
set_option maxHeartbeats 8000000 in
set_option maxRecDepth 100000 in
theorem impl_isCharset.calls (a0 : Int) (r : Bool) (w : World) (h : impl_isCharset.f a0 = some r) :
  Calls Tryz.prog 114 #[.int .i64 a0] w fun e w' => e = .returned (.bool r) ∧ Drawn0 w w' := by
 have H : ((impl_within.f a0 1 5).bind fun t291 => (some t291)) = some r := h
 clear h
 replace H := Option.bind_eq_some_iff.mp H
 obtain ⟨t291, A20, H⟩ := H
 replace H : (some t291) = some r := H
 have A2 := aM A20
 clear A20
 obtain rfl := Option.some.inj H
 go_enter Tryz.func114, Tryz.ntmps114
 go_wp2_with (first | ((with_reducible refine gate_callee (f := 40) rfl ?_); refine gL_ (some 4) Tryz.func40 #[.int .i64 a0, .int .i64 1, .int .i64 5] ?_; (with_reducible refine (impl_within.calls a0 1 5 t291 _ A2.out).mono ?_); rintro e w' ⟨rfl, ⟨nd, rfl⟩⟩; refine ⟨_, rfl, ?_⟩))
 go_ret
 exact ⟨bS, z5⟩
def impl_encodeChar_1.f (a0 : Int) : Option (Int) := some ((wrap64 (128 + (Int.tmod a0 64))) % 256)
set_option maxHeartbeats 8000000 in
set_option maxRecDepth 100000 in
theorem impl_encodeChar_1.calls (a0 : Int) (r : Int) (w : World) (h : impl_encodeChar_1.f a0 = some r) :
  Calls Tryz.prog 94 #[.int .i64 a0] w fun e w' => e = .returned (.int .u8 r) ∧ Drawn0 w w' := by
 have H : (some ((wrap64 (128 + (Int.tmod a0 64))) % 256)) = some r := h
 clear h
 obtain rfl := Option.some.inj H
 go_enter Tryz.func94, Tryz.ntmps94
 go_wp2
 go_ret
 exact ⟨bS, z5⟩
end Go.Proofs.YtjopgmjmjnfcjaaGreatDoor.PWords
