/- The library's division of two words by one (bits.Div64, Knuth's D), as printed: the quotient and the remainder, for a divisor below 2^36. The library's product of two words (bits.Mul64), as printed: the product's two words. What split.exact computes, as printed: the quotient and the remainder of amount * weight by all. What the reference's Quotient computes, as printed: the quotient and the remainder of a * w by s, for w at most s. Words for loops that count from i on: the round at i, and what is read there. The choice of the greatest rests, plainly: marks, bumps, sums; a sound division. -/
import Derived.Laws.BitsLemmas
import Derived.Lib.ItoaNum
import Derived.Test.YtbkfnbbngnocbaaPx6
import Derived.Shelf.Bits.Mul64
import Derived.Test.YtbkfnbbngnocbaaPx5
import Derived.Test.YtbkfnbbngnocbaaWWords
import Derived.Test.YtbkfnbbngnocbaaPx9
set_option linter.unusedVariables false
namespace Go.Proofs.Ytbkfnbbngnocbaa.Px
open Go.Proofs.YtbkfnbbngnocbaaW.PrintWords
theorem quot_le {q n y : Int} (hy : 0 < y) (h : q * y ≤ n) : q ≤ n / y := (Int.le_ediv_iff_mul_le hy).2 h
theorem le_quot {q n y : Int} (hy : 0 < y) (h : n < (q + 1) * y) : n / y ≤ q := by
  have := Int.ediv_lt_of_lt_mul hy h
  omega
/-- the true quotient is at most the trial -/
theorem start (b x u y1 y0 q r : Int) (hb : 0 < b) (hy1 : 0 < y1) (hy0 : 0 ≤ y0) (hu : u < b) (hr : r < y1) (hq0 : 0 ≤ q) (e : x = q * y1 + r) : (x * b + u) / (y1 * b + y0) ≤ q := by
  have hm : 0 < y1 * b := Int.mul_pos hy1 hb
  refine le_quot (by omega) ?_
  subst e
  have h1 : (r + 1) * b ≤ y1 * b := Int.mul_le_mul_of_nonneg_right (by omega) (Int.le_of_lt hb)
  have h2 : 0 ≤ (q + 1) * y0 := Int.mul_nonneg (by omega) hy0
  have e1 : (q * y1 + r) * b + u = q * (y1 * b) + r * b + u := by rw [Int.add_mul, Int.mul_assoc]
  have e2 : (q + 1) * (y1 * b + y0) = q * (y1 * b) + y1 * b + (q + 1) * y0 := by rw [Int.mul_add, Int.add_mul, Int.one_mul]
  rw [e1, e2]
  rw [Int.add_mul, Int.one_mul] at h1
  omega
/-- it stops: the trial is the quotient -/
theorem stop (b x u y1 y0 q r : Int) (hb : 0 < b) (hy1 : 0 < y1) (hy0 : 0 ≤ y0) (e : x = q * y1 + r) (hle : (x * b + u) / (y1 * b + y0) ≤ q) (hc : q * y0 ≤ b * r + u) : q = (x * b + u) / (y1 * b + y0) := by
  have hm : 0 < y1 * b := Int.mul_pos hy1 hb
  refine Int.le_antisymm (quot_le (by omega) ?_) hle
  subst e
  have e1 : (q * y1 + r) * b + u = q * (y1 * b) + b * r + u := by rw [Int.add_mul, Int.mul_assoc, Int.mul_comm r b]
  have e2 : q * (y1 * b + y0) = q * (y1 * b) + q * y0 := by rw [Int.mul_add]
  rw [e1, e2]
  omega
/-- it goes on: the trial less one is not too small -/
theorem down (b x u y1 y0 q r : Int) (hb : 0 < b) (hy1 : 0 < y1) (hy0 : 0 ≤ y0) (e : x = q * y1 + r) (hc : b * r + u < q * y0) : (x * b + u) / (y1 * b + y0) ≤ q - 1 := by
  have hm : 0 < y1 * b := Int.mul_pos hy1 hb
  refine le_quot (by omega) ?_
  rw [show q - 1 + 1 = q by omega]
  subst e
  have e1 : (q * y1 + r) * b + u = q * (y1 * b) + b * r + u := by rw [Int.add_mul, Int.mul_assoc, Int.mul_comm r b]
  have e2 : q * (y1 * b + y0) = q * (y1 * b) + q * y0 := by rw [Int.mul_add]
  rw [e1, e2]
  omega
/-- the true quotient is below the base -/
theorem below (b x u y1 y0 : Int) (hb : 0 < b) (hy1 : 0 < y1) (hy0 : 0 ≤ y0) (hu : u < b) (hx : x < y1 * b + y0) : (x * b + u) / (y1 * b + y0) ≤ b - 1 := by
  have hm : 0 < y1 * b := Int.mul_pos hy1 hb
  refine le_quot (by omega) ?_
  rw [show b - 1 + 1 = b by omega]
  have h1 : (x + 1) * b ≤ (y1 * b + y0) * b := Int.mul_le_mul_of_nonneg_right (by omega) (Int.le_of_lt hb)
  rw [Int.add_mul, Int.one_mul] at h1
  rw [Int.mul_comm b]
  omega
theorem uw (z : Int) (h0 : 0 ≤ z) (h1 : z < 18446744073709551616) : IntKind.u64.wrap z = z := by
  have h2 : IntKind.u64.wrap z = z % 18446744073709551616 := by simp [IntKind.wrap, IntKind.bits, IntKind.signed]
  rw [h2, Int.emod_eq_of_lt h0 h1]
/-- The first digit. -/
theorem digit0 (y n y1 y0 x u u0 : Int) (res : Int × Int) (hy1 : 2147483648 ≤ y1) (hy1' : y1 < 4294967296) (hy0 : 0 ≤ y0) (hy0' : y0 < 4294967296) (hu0 : 0 ≤ u) (hu : u < 4294967296) (hx : x < y1 * 4294967296 + y0)
    (hj : ∃ K, ∀ k, K ≤ k → bits_Div64.j2 k y n y1 y0 x u u0 ((x * 4294967296 + u) / (y1 * 4294967296 + y0)) = some res) :
    ∀ (m : Nat) (q r : Int), q - (x * 4294967296 + u) / (y1 * 4294967296 + y0) ≤ m → x = q * y1 + r → 0 ≤ r → r < 4294967296 → (x * 4294967296 + u) / (y1 * 4294967296 + y0) ≤ q → 0 ≤ q → q ≤ 4294967297 → ∃ K, ∀ k, K ≤ k → bits_Div64.l0 k y n y1 y0 x u u0 q r = some res := by
  obtain ⟨K, hK⟩ := hj
  have hQ := below 4294967296 x u y1 y0 (by omega) (by omega) hy0 hu hx
  generalize hQd : (x * 4294967296 + u) / (y1 * 4294967296 + y0) = Q at hK hQ
  have hy0b : ∀ q : Int, 0 ≤ q → q ≤ 4294967297 → 0 ≤ q * y0 ∧ q * y0 < 18446744073709551616 := fun q h0 h1 => by
    have h2 : q * y0 ≤ 4294967297 * 4294967295 := Int.mul_le_mul h1 (by omega) hy0 (by omega)
    exact ⟨Int.mul_nonneg h0 hy0, by omega⟩
  have fin : ∀ (q r : Int), x = q * y1 + r → 0 ≤ r → r < 4294967296 → Q ≤ q → 0 ≤ q → q < 4294967296 → q * y0 ≤ 4294967296 * r + u → ∃ K, ∀ k, K ≤ k → bits_Div64.l0 k y n y1 y0 x u u0 q r = some res := by
    intro q r e hr0 hr hle hq0 hq hc
    have hqQ : q = Q := by
      rw [← hQd]
      exact stop 4294967296 x u y1 y0 q r (by omega) (by omega) hy0 e (by rw [hQd]; exact hle) hc
    refine ⟨K + 2, fun k hk => ?_⟩
    obtain ⟨j, rfl⟩ : ∃ j, k = j + 2 := ⟨k - 2, by omega⟩
    obtain ⟨b1, b2⟩ := hy0b q hq0 (by omega)
    rw [bits_Div64.l0, if_neg (by omega), uw _ b1 b2, uw (4294967296 * r) (by omega) (by omega), uw (4294967296 * r + u) (by omega) (by omega), decide_eq_false (by omega), bits_Div64.j1, if_neg (by simp), hqQ]
    exact hK j (by omega)
  intro m
  induction m with
  | zero =>
    intro q r hm e hr0 hr hle hq0 hq
    obtain rfl : q = Q := by omega
    refine fin q r e hr0 hr (Int.le_refl _) hq0 (by omega) ?_
    refine Int.not_lt.1 fun hc => ?_
    have := down 4294967296 x u y1 y0 q r (by omega) (by omega) hy0 e hc
    rw [hQd] at this
    omega
  | succ m ih =>
    intro q r hm e hr0 hr hle hq0 hq
    by_cases hC : 4294967296 ≤ q ∨ 4294967296 * r + u < q * y0
    · have hQq : Q ≤ q - 1 := by
        rcases hC with h | h
        · omega
        · have := down 4294967296 x u y1 y0 q r (by omega) (by omega) hy0 e h
          rwa [hQd] at this
      have hQ0 : 0 ≤ q - 1 := by
        by_cases h : q = 0
        · subst h
          rcases hC with h | h
          · omega
          · rw [Int.zero_mul] at h; omega
        · omega
      have e' : x = (q - 1) * y1 + (r + y1) := by rw [e, Int.sub_mul, Int.one_mul]; omega
      have step : ∀ k, bits_Div64.l0 (k + 2) y n y1 y0 x u u0 q r = if r + y1 ≥ 4294967296 then bits_Div64.j2 k y n y1 y0 x u u0 (q - 1) else bits_Div64.l0 k y n y1 y0 x u u0 (q - 1) (r + y1) := by
        intro k
        have hj1 : bits_Div64.l0 (k + 2) y n y1 y0 x u u0 q r = bits_Div64.j1 (k + 1) y n y1 y0 x u u0 q r true := by
          rw [bits_Div64.l0]
          by_cases hqb : q ≥ 4294967296
          · rw [if_pos hqb]
          · obtain ⟨b1, b2⟩ := hy0b q hq0 hq
            rw [if_neg hqb, uw _ b1 b2, uw (4294967296 * r) (by omega) (by omega), uw (4294967296 * r + u) (by omega) (by omega), decide_eq_true (by omega)]
        rw [hj1, bits_Div64.j1, if_pos rfl, uw (r + y1) (by omega) (by omega), uw (q - 1) hQ0 (by omega)]
      by_cases hr' : r + y1 ≥ 4294967296
      · have hqQ : q - 1 = Q := by
          rw [← hQd]
          refine stop 4294967296 x u y1 y0 (q - 1) (r + y1) (by omega) (by omega) hy0 e' (by rw [hQd]; exact hQq) ?_
          have h2 : (q - 1) * y0 ≤ 4294967296 * 4294967295 := Int.mul_le_mul (by omega) (by omega) hy0 (by omega)
          omega
        refine ⟨K + 2, fun k hk => ?_⟩
        obtain ⟨j, rfl⟩ : ∃ j, k = j + 2 := ⟨k - 2, by omega⟩
        rw [step, if_pos hr', hqQ]
        exact hK j (by omega)
      · obtain ⟨K2, h2⟩ := ih (q - 1) (r + y1) (by omega) e' (by omega) (by omega) hQq hQ0 (by omega)
        refine ⟨K2 + 2, fun k hk => ?_⟩
        obtain ⟨j, rfl⟩ : ∃ j, k = j + 2 := ⟨k - 2, by omega⟩
        rw [step, if_neg hr']
        exact h2 j (by omega)
    · have hC' : q < 4294967296 ∧ q * y0 ≤ 4294967296 * r + u := ⟨by omega, by omega⟩
      exact fin q r e hr0 hr hle hq0 hC'.1 hC'.2
/-- The second digit. -/
theorem digit1 (y n y1 y0 q1 x u : Int) (hn : 0 ≤ n) (hy1 : 2147483648 ≤ y1) (hy1' : y1 < 4294967296) (hy0 : 0 ≤ y0) (hy0' : y0 < 4294967296) (hu0 : 0 ≤ u) (hu : u < 4294967296) (hx : x < y1 * 4294967296 + y0) :
    ∀ (m : Nat) (q r : Int), q - (x * 4294967296 + u) / (y1 * 4294967296 + y0) ≤ m → x = q * y1 + r → 0 ≤ r → r < 4294967296 → (x * 4294967296 + u) / (y1 * 4294967296 + y0) ≤ q → 0 ≤ q → q ≤ 4294967297 → ∃ K, ∀ k, K ≤ k → bits_Div64.l1 k y n y1 y0 u q1 r x q = some (IntKind.u64.wrap (IntKind.u64.wrap (q1 * 4294967296) + ((x * 4294967296 + u) / (y1 * 4294967296 + y0))), shr .u64 (IntKind.u64.wrap (IntKind.u64.wrap (IntKind.u64.wrap (x * 4294967296) + u) - IntKind.u64.wrap (((x * 4294967296 + u) / (y1 * 4294967296 + y0)) * y))) n) := by
  have hQ := below 4294967296 x u y1 y0 (by omega) (by omega) hy0 hu hx
  generalize hQd : (x * 4294967296 + u) / (y1 * 4294967296 + y0) = Q at hQ ⊢
  have hy0b : ∀ q : Int, 0 ≤ q → q ≤ 4294967297 → 0 ≤ q * y0 ∧ q * y0 < 18446744073709551616 := fun q h0 h1 => by
    have h2 : q * y0 ≤ 4294967297 * 4294967295 := Int.mul_le_mul h1 (by omega) hy0 (by omega)
    exact ⟨Int.mul_nonneg h0 hy0, by omega⟩
  have fin : ∀ (q r : Int), x = q * y1 + r → 0 ≤ r → r < 4294967296 → Q ≤ q → 0 ≤ q → q < 4294967296 → q * y0 ≤ 4294967296 * r + u → ∃ K, ∀ k, K ≤ k → bits_Div64.l1 k y n y1 y0 u q1 r x q = some (IntKind.u64.wrap (IntKind.u64.wrap (q1 * 4294967296) + (Q)), shr .u64 (IntKind.u64.wrap (IntKind.u64.wrap (IntKind.u64.wrap (x * 4294967296) + u) - IntKind.u64.wrap ((Q) * y))) n) := by
    intro q r e hr0 hr hle hq0 hq hc
    have hqQ : q = Q := by
      rw [← hQd]
      exact stop 4294967296 x u y1 y0 q r (by omega) (by omega) hy0 e (by rw [hQd]; exact hle) hc
    refine ⟨2, fun k hk => ?_⟩
    obtain ⟨j, rfl⟩ : ∃ j, k = j + 2 := ⟨k - 2, by omega⟩
    obtain ⟨b1, b2⟩ := hy0b q hq0 (by omega)
    rw [bits_Div64.l1, if_neg (by omega), uw _ b1 b2, uw (4294967296 * r) (by omega) (by omega), uw (4294967296 * r + u) (by omega) (by omega), decide_eq_false (by omega), bits_Div64.j4, if_neg (by simp), if_pos hn, hqQ]
  intro m
  induction m with
  | zero =>
    intro q r hm e hr0 hr hle hq0 hq
    obtain rfl : q = Q := by omega
    refine fin q r e hr0 hr (Int.le_refl _) hq0 (by omega) ?_
    refine Int.not_lt.1 fun hc => ?_
    have := down 4294967296 x u y1 y0 q r (by omega) (by omega) hy0 e hc
    rw [hQd] at this
    omega
  | succ m ih =>
    intro q r hm e hr0 hr hle hq0 hq
    by_cases hC : 4294967296 ≤ q ∨ 4294967296 * r + u < q * y0
    · have hQq : Q ≤ q - 1 := by
        rcases hC with h | h
        · omega
        · have := down 4294967296 x u y1 y0 q r (by omega) (by omega) hy0 e h
          rwa [hQd] at this
      have hQ0 : 0 ≤ q - 1 := by
        by_cases h : q = 0
        · subst h
          rcases hC with h | h
          · omega
          · rw [Int.zero_mul] at h; omega
        · omega
      have e' : x = (q - 1) * y1 + (r + y1) := by rw [e, Int.sub_mul, Int.one_mul]; omega
      have step : ∀ k, bits_Div64.l1 (k + 2) y n y1 y0 u q1 r x q = if r + y1 ≥ 4294967296 then some (IntKind.u64.wrap (IntKind.u64.wrap (q1 * 4294967296) + (q - 1)), shr .u64 (IntKind.u64.wrap (IntKind.u64.wrap (IntKind.u64.wrap (x * 4294967296) + u) - IntKind.u64.wrap ((q - 1) * y))) n) else bits_Div64.l1 k y n y1 y0 u q1 (r + y1) x (q - 1) := by
        intro k
        have hj1 : bits_Div64.l1 (k + 2) y n y1 y0 u q1 r x q = bits_Div64.j4 (k + 1) y n y1 y0 u q1 r x q true := by
          rw [bits_Div64.l1]
          by_cases hqb : q ≥ 4294967296
          · rw [if_pos hqb]
          · obtain ⟨b1, b2⟩ := hy0b q hq0 hq
            rw [if_neg hqb, uw _ b1 b2, uw (4294967296 * r) (by omega) (by omega), uw (4294967296 * r + u) (by omega) (by omega), decide_eq_true (by omega)]
        rw [hj1, bits_Div64.j4, if_pos rfl, uw (r + y1) (by omega) (by omega), uw (q - 1) hQ0 (by omega), if_pos hn]
      by_cases hr' : r + y1 ≥ 4294967296
      · have hqQ : q - 1 = Q := by
          rw [← hQd]
          refine stop 4294967296 x u y1 y0 (q - 1) (r + y1) (by omega) (by omega) hy0 e' (by rw [hQd]; exact hQq) ?_
          have h2 : (q - 1) * y0 ≤ 4294967296 * 4294967295 := Int.mul_le_mul (by omega) (by omega) hy0 (by omega)
          omega
        refine ⟨2, fun k hk => ?_⟩
        obtain ⟨j, rfl⟩ : ∃ j, k = j + 2 := ⟨k - 2, by omega⟩
        rw [step, if_pos hr', hqQ]
      · obtain ⟨K2, h2⟩ := ih (q - 1) (r + y1) (by omega) e' (by omega) (by omega) hQq hQ0 (by omega)
        refine ⟨K2 + 2, fun k hk => ?_⟩
        obtain ⟨j, rfl⟩ : ∃ j, k = j + 2 := ⟨k - 2, by omega⟩
        rw [step, if_neg hr']
        exact h2 j (by omega)
    · have hC' : q < 4294967296 ∧ q * y0 ≤ 4294967296 * r + u := ⟨by omega, by omega⟩
      exact fin q r e hr0 hr hle hq0 hC'.1 hC'.2
theorem div_core (b hi lo s P P2 : Int) (hb : 0 < b) (hP : 0 < P) (hP2 : 0 < P2) (e : P * P2 = b * b) (hs : 0 < s) (x t y q1 x1 q0 : Int)
    (hx : x = hi * P + lo / P2) (ht : t = (lo % P2) * P) (hy : y = s * P) (hq1 : q1 = (x * b + t / b) / y) (hx1 : x1 = x * b + t / b - q1 * y) (hq0 : q0 = (x1 * b + t % b) / y) :
    q1 * b + q0 = (hi * (b * b) + lo) / s ∧ x1 * b + t % b - q0 * y = (hi * (b * b) + lo) % s * P := by
  have hyp : 0 < y := by rw [hy]; exact Int.mul_pos hs hP
  have e1 : x * (b * b) + t = P * (hi * (b * b) + lo) := by
    have h1 : lo / P2 * (b * b) + (lo % P2) * P = P * lo := by
      rw [← e]
      have h2 := Int.emod_add_mul_ediv lo P2
      have h3 : P * lo = P * (lo % P2 + P2 * (lo / P2)) := by rw [h2]
      rw [h3, Int.mul_add]
      have h4 : lo / P2 * (P * P2) = P * (P2 * (lo / P2)) := by
        rw [Int.mul_comm (lo / P2), Int.mul_assoc]
      rw [h4, Int.mul_comm P (lo % P2)]
      omega
    rw [hx, ht, Int.add_mul, Int.mul_add P, ← h1]
    have h5 : hi * P * (b * b) = P * (hi * (b * b)) := by rw [Int.mul_comm hi P, Int.mul_assoc]
    omega
  have e2 : x * (b * b) + t = (x * b + t / b) * b + t % b := by
    have h1 := Int.emod_add_mul_ediv t b
    have h2 : x * (b * b) = x * b * b := (Int.mul_assoc _ _ _).symm
    have h3 : (x * b + t / b) * b = x * b * b + b * (t / b) := by rw [Int.add_mul, Int.mul_comm (t / b)]
    omega
  have e3 : (x * b + t / b) * b = q1 * b * y + x1 * b := by
    have h1 : x * b + t / b = q1 * y + x1 := by omega
    rw [h1, Int.add_mul]
    have : q1 * y * b = q1 * b * y := by rw [Int.mul_assoc, Int.mul_comm y b, ← Int.mul_assoc]
    omega
  have hr := Int.emod_add_mul_ediv (x1 * b + t % b) y
  rw [← hq0] at hr
  have hr0 := Int.emod_nonneg (x1 * b + t % b) (Int.ne_of_gt hyp)
  have hr1 := Int.emod_lt_of_pos (x1 * b + t % b) hyp
  generalize hrr : (x1 * b + t % b) % y = r at hr hr0 hr1
  have hcm : y * q0 = q0 * y := Int.mul_comm _ _
  have e4 : P * (hi * (b * b) + lo) = (q1 * b + q0) * y + r := by
    rw [Int.add_mul]
    omega
  generalize hN : hi * (b * b) + lo = N at e4 ⊢
  generalize hQ : q1 * b + q0 = Q at e4 ⊢
  have e5 : r = P * (N - Q * s) := by
    rw [Int.mul_sub, e4, hy]
    have : Q * (s * P) = P * (Q * s) := by rw [Int.mul_comm P, Int.mul_assoc]
    omega
  have h6 : 0 ≤ N - Q * s := by
    refine Int.not_lt.1 fun h => ?_
    have : P * (N - Q * s) < 0 := Int.mul_neg_of_pos_of_neg hP h
    omega
  have h7 : N - Q * s < s := by
    refine Int.not_le.1 fun h => ?_
    have h8 : P * s ≤ P * (N - Q * s) := Int.mul_le_mul_of_nonneg_left h (Int.le_of_lt hP)
    have : s * P = P * s := Int.mul_comm _ _
    omega
  have hdiv : N / s = Q := by
    have h9 : N = (N - Q * s) + s * Q := by rw [Int.mul_comm s]; omega
    rw [h9, Int.add_mul_ediv_left _ _ (Int.ne_of_gt hs), Int.ediv_eq_zero_of_lt h6 h7, Int.zero_add]
  have hmod : N % s = N - Q * s := by
    have h10 := Int.emod_add_mul_ediv N s
    rw [hdiv, Int.mul_comm s] at h10
    omega
  refine ⟨hdiv.symm, ?_⟩
  rw [hmod, Int.mul_comm _ P, ← e5]
  omega

open Go.Proofs.YtbkfnbbngnocbaaW.PrintMore in
theorem div64_is (hi lo s : Int) (h0 : 0 ≤ hi) (h1 : hi < s) (hs : s < 68719476736) (hl0 : 0 ≤ lo) (hl : lo < 18446744073709551616) : ∃ K, ∀ k, K ≤ k → bits_Div64.f k hi lo s = some ((hi * 18446744073709551616 + lo) / s, (hi * 18446744073709551616 + lo) % s) := by
  have hs0 : 0 < s := by omega
  by_cases hh : hi = 0
  · subst hh
    refine ⟨0, fun k _ => ?_⟩
    have hd : lo / s < 18446744073709551616 := Int.lt_of_le_of_lt (Int.ediv_le_self s hl0) hl
    unfold bits_Div64.f
    rw [if_neg (by omega), if_neg (by omega), if_pos rfl, Int.tdiv_eq_ediv_of_nonneg hl0, Int.tmod_eq_emod_of_nonneg hl0, uw _ (Int.ediv_nonneg hl0 (by omega)) hd]
    simp
  · have hb := Go.Lib.bitLenAux_bounds 64 s.toNat (by omega) (by omega)
    have hL0 : Go.Lib.bitLen s.toNat = Go.Lib.bitLenAux 64 s.toNat := rfl
    rw [← hL0] at hb
    obtain ⟨L, hL⟩ : ∃ L, L = Go.Lib.bitLen s.toNat := ⟨_, rfl⟩
    rw [← hL] at hb
    obtain ⟨b1, b2, b3⟩ := hb
    have hL36 : L ≤ 36 := by
      refine Nat.not_lt.1 fun h => ?_
      have : 2 ^ 36 ≤ 2 ^ (L - 1) := Nat.pow_le_pow_right (by omega) (by omega)
      omega
    obtain ⟨n, hn⟩ : ∃ n, n = 64 - L := ⟨_, rfl⟩
    obtain ⟨P, hP⟩ : ∃ P : Int, P = 2 ^ n := ⟨_, rfl⟩
    obtain ⟨P2, hP2⟩ : ∃ P2 : Int, P2 = 2 ^ L := ⟨_, rfl⟩
    have hP0 : 0 < P := by rw [hP]; exact Int.pow_pos (by omega)
    have hP20 : 0 < P2 := by rw [hP2]; exact Int.pow_pos (by omega)
    have hPP : P * P2 = 18446744073709551616 := by
      rw [hP, hP2, ← Int.pow_add, show n + L = 64 by omega]
      rfl
    have hsP2 : s < P2 := by
      rw [hP2]
      have : ((s.toNat : Nat) : Int) < ((2 ^ L : Nat) : Int) := Int.ofNat_lt.2 b3
      rw [Int.toNat_of_nonneg (by omega)] at this
      simpa using this
    have hsP3 : P2 ≤ s * 2 := by
      rw [hP2]
      have h5 : (((2 ^ (L - 1) : Nat) : Int)) ≤ ((s.toNat : Nat) : Int) := Int.ofNat_le.2 b2
      rw [Int.toNat_of_nonneg (by omega)] at h5
      have h6 : (2 : Int) ^ L = 2 ^ (L - 1) * 2 := by rw [← Int.pow_succ]; congr 1; omega
      rw [h6]
      have h7 : ((2 ^ (L - 1) : Nat) : Int) = (2 : Int) ^ (L - 1) := by simp
      rw [h7] at h5
      omega
    have hsP : s * P < 18446744073709551616 := by
      have := Int.mul_lt_mul_of_pos_right hsP2 hP0
      rw [Int.mul_comm P2, hPP] at this
      exact this
    have hsP63 : 9223372036854775808 ≤ s * P := by
      have := Int.mul_le_mul_of_nonneg_right hsP3 (Int.le_of_lt hP0)
      rw [Int.mul_comm P2, hPP, Int.mul_right_comm] at this
      omega
    have hhP : hi * P < s * P := Int.mul_lt_mul_of_pos_right h1 hP0
    have hhP0 : 0 ≤ hi * P := Int.mul_nonneg h0 (Int.le_of_lt hP0)
    have hw : ∀ z : Int, 0 ≤ z → z < 2 ^ 64 → IntKind.u64.wrap z = z := fun z a b => uw z a b
    have hbits : IntKind.u64.bits = 64 := rfl
    have hnI : IntKind.u64.wrap (64 - (L : Int)) = (n : Int) := by rw [uw _ (by omega) (by omega)]; omega
    have hLI : IntKind.u64.wrap (64 - (n : Int)) = (L : Int) := by rw [uw _ (by omega) (by omega)]; omega
    have e1 : shl .u64 s (n : Int) = s * P := by
      unfold shl
      rw [Int.toNat_natCast, hbits, Nat.min_eq_left (by omega), ← hP, uw _ (by omega) hsP]
    have e2 : shl .u64 hi (n : Int) = hi * P := by
      unfold shl
      rw [Int.toNat_natCast, hbits, Nat.min_eq_left (by omega), ← hP, uw _ hhP0 (by omega)]
    have e3 : shr .u64 lo (L : Int) = lo / P2 := by
      unfold shr
      rw [Int.toNat_natCast, hbits, Nat.min_eq_left (by omega), ← hP2]
    have hlP0 : 0 ≤ lo % P2 := Int.emod_nonneg _ (by omega)
    have hlP1 : lo % P2 < P2 := Int.emod_lt_of_pos _ hP20
    have hdP0 : 0 ≤ lo / P2 := Int.ediv_nonneg hl0 (Int.le_of_lt hP20)
    have hdP1 : lo / P2 < P := Int.ediv_lt_of_lt_mul hP20 (by rw [hPP]; exact hl)
    have e4 : shl .u64 lo (n : Int) = (lo % P2) * P := by
      unfold shl
      have hww : ∀ z : Int, IntKind.u64.wrap z = z % 18446744073709551616 := fun z => by simp [IntKind.wrap, IntKind.bits, IntKind.signed]
      rw [Int.toNat_natCast, hbits, Nat.min_eq_left (by omega), ← hP, hww, ← hPP, Int.mul_comm lo, Int.mul_emod_mul_of_pos _ _ hP0, Int.mul_comm]
    have e5 : Go.bits .or .u64 (hi * P) (lo / P2) = hi * P + lo / P2 := by
      refine bits_join .u64 64 (Nat.le_refl _) hw n (hi * P) (lo / P2) hhP0 ?_ (by omega) hdP0 (by rw [← hP]; exact hdP1) (Int.lt_of_le_of_lt (Int.ediv_le_self P2 hl0) hl)
      rw [← hP, Int.mul_emod_left]
    have mask : ∀ z : Int, 0 ≤ z → z < 18446744073709551616 → Go.bits .and .u64 z 4294967295 = z % 4294967296 := fun z a b => bits_mask .u64 64 (Nat.le_refl _) hw 32 (by omega) z a b
    have ht0 : 0 ≤ lo % P2 * P := Int.mul_nonneg hlP0 (Int.le_of_lt hP0)
    have ht1 : lo % P2 * P < 18446744073709551616 := by
      have := Int.mul_lt_mul_of_pos_right hlP1 hP0
      rw [Int.mul_comm P2, hPP] at this
      exact this
    have hxy : hi * P + lo / P2 < s * P := by
      have : (hi + 1) * P ≤ s * P := Int.mul_le_mul_of_nonneg_right (by omega) (Int.le_of_lt hP0)
      rw [Int.add_mul, Int.one_mul] at this
      omega
    obtain ⟨y, hyd⟩ : ∃ y, y = s * P := ⟨_, rfl⟩
    obtain ⟨x, hxd⟩ : ∃ x, x = hi * P + lo / P2 := ⟨_, rfl⟩
    obtain ⟨t, htd⟩ : ∃ t, t = lo % P2 * P := ⟨_, rfl⟩
    have core := div_core 4294967296 hi lo s P P2 (by omega) hP0 hP20 (by rw [hPP]; rfl) hs0 x t y _ _ _ hxd htd hyd rfl rfl rfl
    rw [← hyd] at hsP hsP63 hxy e1
    rw [← hxd] at hxy e5
    rw [← htd] at ht0 ht1 e4
    have hx0 : 0 ≤ x := by rw [hxd]; omega
    have ey : y / 4294967296 * 4294967296 + y % 4294967296 = y := by omega
    obtain ⟨y1, hy1⟩ : ∃ y1, y1 = y / 4294967296 := ⟨_, rfl⟩
    obtain ⟨y0, hy0⟩ : ∃ y0, y0 = y % 4294967296 := ⟨_, rfl⟩
    obtain ⟨u1, hu1⟩ : ∃ u, u = t / 4294967296 := ⟨_, rfl⟩
    obtain ⟨u0, hu0⟩ : ∃ u, u = t % 4294967296 := ⟨_, rfl⟩
    rw [← hu1, ← hu0] at core
    have hy1a : 2147483648 ≤ y1 := by omega
    have hy1b : y1 < 4294967296 := by omega
    have hy0a : 0 ≤ y0 := by omega
    have hy0b : y0 < 4294967296 := by omega
    have hyy : y1 * 4294967296 + y0 = y := by omega
    have hu1a : 0 ≤ u1 := by omega
    have hu1b : u1 < 4294967296 := by omega
    have hu0a : 0 ≤ u0 := by omega
    have hu0b : u0 < 4294967296 := by omega
    have hyp : 0 < y := by omega
    obtain ⟨Q1, hQ1⟩ : ∃ q, q = (x * 4294967296 + u1) / y := ⟨_, rfl⟩
    rw [← hQ1] at core
    obtain ⟨x1, hx1⟩ : ∃ q, q = x * 4294967296 + u1 - Q1 * y := ⟨_, rfl⟩
    rw [← hx1] at core
    have hx1m : x1 = (x * 4294967296 + u1) % y := by
      have := Int.emod_add_mul_ediv (x * 4294967296 + u1) y
      rw [← hQ1, Int.mul_comm y] at this
      omega
    have hx1a : 0 ≤ x1 := by rw [hx1m]; exact Int.emod_nonneg _ (by omega)
    have hx1b : x1 < y := by rw [hx1m]; exact Int.emod_lt_of_pos _ hyp
    have trial : ∀ z : Int, 0 ≤ z → z < y → 0 ≤ z / y1 ∧ z / y1 ≤ 4294967297 ∧ z = z / y1 * y1 + z % y1 ∧ 0 ≤ z % y1 ∧ z % y1 < 4294967296 := by
      intro z z0 z1
      have a1 := Int.emod_add_mul_ediv z y1
      rw [Int.mul_comm] at a1
      have a2 := Int.emod_nonneg z (show y1 ≠ 0 by omega)
      have a3 := Int.emod_lt_of_pos z (show 0 < y1 by omega)
      refine ⟨Int.ediv_nonneg z0 (by omega), ?_, by omega, a2, by omega⟩
      refine Int.not_lt.1 fun h => ?_
      have : 4294967298 * y1 ≤ z / y1 * y1 := Int.mul_le_mul_of_nonneg_right (by omega) (by omega)
      omega
    obtain ⟨a1, a2, a3, a4, a5⟩ := trial x hx0 hxy
    obtain ⟨c1, c2, c3, c4, c5⟩ := trial x1 hx1a hx1b
    have s1 := start 4294967296 x u1 y1 y0 (x / y1) (x % y1) (by omega) (by omega) hy0a hu1b (Int.emod_lt_of_pos _ (by omega)) a1 a3
    have s2 := start 4294967296 x1 u0 y1 y0 (x1 / y1) (x1 % y1) (by omega) (by omega) hy0a hu0b (Int.emod_lt_of_pos _ (by omega)) c1 c3
    have g0 : 0 ≤ (x * 4294967296 + u1) / (y1 * 4294967296 + y0) := Int.ediv_nonneg (by omega) (by omega)
    have g1 : 0 ≤ (x1 * 4294967296 + u0) / (y1 * 4294967296 + y0) := Int.ediv_nonneg (by omega) (by omega)
    obtain ⟨K1, k1⟩ := digit1 y (n : Int) y1 y0 Q1 x1 u0 (by omega) hy1a hy1b hy0a hy0b hu0a hu0b (by rw [hyy]; exact hx1b) 4294967297 (x1 / y1) (x1 % y1) (by omega) c3 c4 c5 s2 c1 c2
    rw [hyy] at k1 s2 g1
    rw [hyy] at s1 g0
    have hww : ∀ z : Int, IntKind.u64.wrap z = z % 18446744073709551616 := fun z => by simp [IntKind.wrap, IntKind.bits, IntKind.signed]
    have eX : IntKind.u64.wrap (IntKind.u64.wrap (IntKind.u64.wrap (x * 4294967296) + u1) - IntKind.u64.wrap (Q1 * y)) = x1 := by
      rw [hww, hww, hww, hww]
      generalize Q1 * y = z at hx1
      omega
    obtain ⟨Q0, hQ0⟩ : ∃ q, q = (x1 * 4294967296 + u0) / y := ⟨_, rfl⟩
    rw [← hQ0] at core k1 g1
    have hQ1b := below 4294967296 x u1 y1 y0 (by omega) (by omega) hy0a hu1b (by rw [hyy]; exact hxy)
    have hQ0b := below 4294967296 x1 u0 y1 y0 (by omega) (by omega) hy0a hu0b (by rw [hyy]; exact hx1b)
    rw [hyy] at hQ1b hQ0b
    rw [← hQ0] at hQ0b
    rw [← hQ1] at hQ1b g0
    have hrem : x1 * 4294967296 + u0 - Q0 * y = (x1 * 4294967296 + u0) % y := by
      have := Int.emod_add_mul_ediv (x1 * 4294967296 + u0) y
      rw [← hQ0, Int.mul_comm y] at this
      omega
    have hrem0 := Int.emod_nonneg (x1 * 4294967296 + u0) (show y ≠ 0 by omega)
    have hrem1 := Int.emod_lt_of_pos (x1 * 4294967296 + u0) hyp
    have eR : IntKind.u64.wrap (IntKind.u64.wrap (IntKind.u64.wrap (x1 * 4294967296) + u0) - IntKind.u64.wrap (Q0 * y)) = x1 * 4294967296 + u0 - Q0 * y := by
      rw [hww, hww, hww, hww]
      rw [← hrem] at hrem0 hrem1
      generalize Q0 * y = z at hrem0 hrem1
      omega
    have eQ : IntKind.u64.wrap (IntKind.u64.wrap (Q1 * 4294967296) + Q0) = Q1 * 4294967296 + Q0 := by
      rw [uw (Q1 * 4294967296) (by omega) (by omega), uw _ (by omega) (by omega)]
    have eS : shr .u64 (x1 * 4294967296 + u0 - Q0 * y) (n : Int) = (hi * 18446744073709551616 + lo) % s := by
      unfold shr
      rw [Int.toNat_natCast, hbits, Nat.min_eq_left (by omega), ← hP, core.2, Int.mul_ediv_cancel _ (by omega)]
      rfl
    have hfin : some (Q1 * 4294967296 + Q0, (hi * 18446744073709551616 + lo) % s) = some ((hi * 18446744073709551616 + lo) / s, (hi * 18446744073709551616 + lo) % s) := by
      rw [core.1]
      rfl
    obtain ⟨K0, k0⟩ := digit0 y (n : Int) y1 y0 x u1 u0 ((hi * 18446744073709551616 + lo) / s, (hi * 18446744073709551616 + lo) % s) hy1a hy1b hy0a hy0b hu1a hu1b (by rw [hyy]; exact hxy) (by
      rw [hyy, ← hQ1]
      refine ⟨K1 + 1, fun k hk => ?_⟩
      obtain ⟨j, rfl⟩ : ∃ j, k = j + 1 := ⟨k - 1, by omega⟩
      rw [bits_Div64.j2, if_neg (by omega), eX, Int.tdiv_eq_ediv_of_nonneg hx1a, uw (x1 / y1) c1 (by omega), uw (x1 / y1 * y1) (Int.mul_nonneg c1 (by omega)) (by omega), show x1 - x1 / y1 * y1 = x1 % y1 by omega, uw (x1 % y1) c4 (by omega), k1 j (by omega), eR, eQ, eS]
      exact hfin) 4294967297 (x / y1) (x % y1) (by rw [hyy, ← hQ1]; omega) a3 a4 a5 (by rw [hyy]; exact s1) a1 a2
    have hz : bits_LeadingZeros64.f s = some (64 - (L : Int)) := by
      unfold bits_LeadingZeros64.f
      rw [if_pos ⟨by omega, by omega⟩, hL]
    refine ⟨K0, fun k hk => ?_⟩
    unfold bits_Div64.f
    rw [if_neg (by omega), if_neg (by omega), if_neg hh, hz, Option.bind_some, hnI, if_pos (by omega), hLI, if_pos (by omega), e1, e2, e3, e4, e5, ← hy1, if_neg (by omega), mask y (by omega) hsP, ← hy0, ← hu1, mask t ht0 ht1, ← hu0, Int.tdiv_eq_ediv_of_nonneg hx0, uw (x / y1) a1 (by omega), uw (x / y1 * y1) (Int.mul_nonneg a1 (by omega)) (by omega), show x - x / y1 * y1 = x % y1 by omega, uw (x % y1) a4 (by omega)]
    exact k0 k hk
end Go.Proofs.Ytbkfnbbngnocbaa.Px
namespace Go.Proofs.Ytbkfnbbngnocbaa.Px
open Go.Proofs.YtbkfnbbngnocbaaW.PrintWords Go.Proofs
set_option maxHeartbeats 1000000 in
theorem mul64_is (x y : Nat) (hx : x < 18446744073709551616) (hy : y < 18446744073709551616) : bits_Mul64.f (x : Int) (y : Int) = some (((x * y / 18446744073709551616 : Nat) : Int), ((x * y % 18446744073709551616 : Nat) : Int)) := by
  obtain ⟨bd, bt, bw, hhi⟩ := Lib.mul64_hi x y hx hy
  have ba := Lib.half_mul_le (a := x / 4294967296) (b := y / 4294967296) (by omega) (by omega)
  have bb := Lib.half_mul_le (a := x / 4294967296) (b := y % 4294967296) (by omega) (by omega)
  have bc := Lib.half_mul_le (a := x % 4294967296) (b := y / 4294967296) (by omega) (by omega)
  have ba' : x / 4294967296 * (y / 4294967296) < 18446744073709551616 := by omega
  have bb' : x / 4294967296 * (y % 4294967296) < 18446744073709551616 := by omega
  have bc' : x % 4294967296 * (y / 4294967296) < 18446744073709551616 := by omega
  have bh1 : x / 4294967296 * (y / 4294967296) + (x / 4294967296 * (y % 4294967296) + x % 4294967296 * (y % 4294967296) / 4294967296) / 4294967296 < 18446744073709551616 := by omega
  have bh : x / 4294967296 * (y / 4294967296) + (x / 4294967296 * (y % 4294967296) + x % 4294967296 * (y % 4294967296) / 4294967296) / 4294967296 + ((x / 4294967296 * (y % 4294967296) + x % 4294967296 * (y % 4294967296) / 4294967296) % 4294967296 + x % 4294967296 * (y / 4294967296)) / 4294967296 < 18446744073709551616 := by omega
  unfold bits_Mul64.f
  simp only [Mul64.maskN x hx, Mul64.maskN y hy, Mul64.divN, Mul64.mulN, Mul64.addN, Mul64.wrapN _ bd, Mul64.wrapN _ bb', Mul64.wrapN _ bt, Mul64.maskN _ bt, Mul64.wrapN _ bc', Mul64.wrapN _ bw, Mul64.wrapN _ ba', Mul64.wrapN _ bh1, Mul64.wrapN _ bh, Mul64.wrapM (x * y)]
  rw [hhi]
end Go.Proofs.Ytbkfnbbngnocbaa.Px
namespace Go.Proofs.Ytbkfnbbngnocbaa.Px
open Go.Proofs.YtbkfnbbngnocbaaW.PrintWords
open Go.RowKit in
theorem exact_is (a w s : Int) (ha : 0 ≤ a) (ha1 : a ≤ 1099511627776) (hw : 0 ≤ w) (hws : w ≤ s) (hs : 0 < s) (hs1 : s ≤ 64000000000) : ∃ K, ∀ k, K ≤ k → split_exact.f k a w s = some (a * w / s, a * w % s) := by
  obtain ⟨x, rfl⟩ := Int.eq_ofNat_of_zero_le ha
  obtain ⟨y, rfl⟩ := Int.eq_ofNat_of_zero_le hw
  have hm := mul64_is x y (by omega) (by omega)
  have hb : x * y ≤ 1099511627776 * y := Nat.mul_le_mul_right y (by omega)
  have hhi : ((x * y / 18446744073709551616 : Nat) : Int) < s := by omega
  obtain ⟨K, hK⟩ := div64_is ((x * y / 18446744073709551616 : Nat) : Int) ((x * y % 18446744073709551616 : Nat) : Int) s (by omega) hhi (by omega) (by omega) (by omega)
  have e : ((x * y / 18446744073709551616 : Nat) : Int) * 18446744073709551616 + ((x * y % 18446744073709551616 : Nat) : Int) = (x : Int) * (y : Int) := by
    rw [← Int.natCast_mul]
    omega
  rw [e] at hK
  refine ⟨K, fun k hk => ?_⟩
  have hxy : (x : Int) * y ≤ 1099511627776 * s := by
    rw [← Int.natCast_mul]
    omega
  have hxy0 : 0 ≤ (x : Int) * y := Int.mul_nonneg ha hw
  have hq : (x : Int) * y / s ≤ 1099511627776 := by
    refine Int.ediv_le_of_le_mul hs hxy
  have hq0 := Int.ediv_nonneg hxy0 (Int.le_of_lt hs)
  have hr0 := Int.emod_nonneg ((x : Int) * y) (show s ≠ 0 by omega)
  have hr1 := Int.emod_lt_of_pos ((x : Int) * y) hs
  unfold split_exact.f
  rw [uw (x : Int) (by omega) (by omega), uw (y : Int) (by omega) (by omega), uw s (by omega) (by omega), hm, Option.bind_some, hK k hk, Option.bind_some]
  have w1 : wrap64 ((x : Int) * y / s) = (x : Int) * y / s := by
    generalize (x : Int) * y / s = z at hq hq0
    unfold wrap64
    omega
  have w2 : wrap64 ((x : Int) * y % s) = (x : Int) * y % s := by
    generalize (x : Int) * y % s = z at hr0 hr1
    unfold wrap64
    omega
  rw [w1, w2]
end Go.Proofs.Ytbkfnbbngnocbaa.Px
namespace Go.Proofs.Ytbkfnbbngnocbaa.Px
open Go.Proofs.YtbkfnbbngnocbaaW.PrintWords Go.Proofs.YtbkfnbbngnocbaaW.PrintMore Go.RowKit
theorem wr64 (z : Int) (h0 : 0 ≤ z) (h1 : z < 9223372036854775808) : wrap64 z = z := by unfold wrap64; omega
end Go.Proofs.Ytbkfnbbngnocbaa.Px
namespace Go.Proofs.Ytbkfnbbngnocbaa.Px
open Go.RowKit Go.Proofs.YtbkfnbbngnocbaaW.PrintWords

theorem wrap_up {n i : Nat} (h : i < n) (hn : n ≤ 9223372036854775807) : wrap64 ((i : Int) + 1) = ((i + 1 : Nat) : Int) := by unfold wrap64; omega
theorem drop_cons {α : Type} (z : α) (xs : List α) {i : Nat} (h : i < xs.length) : xs.drop i = xs.getD i z :: xs.drop (i + 1) := by
  rw [List.getD_eq_getElem?_getD, List.getElem?_eq_getElem h, Option.getD_some]
  exact List.drop_eq_getElem_cons h
/-- A loop over a list with one state: F k i s is the loop with k rounds left at i; each round either goes on with step or stops with an answer. -/
theorem fold_loop {α σ ρ : Type} (F : Nat → Nat → σ → Option ρ) (E : Nat → σ → Option ρ) (step : σ → α → σ) (xs : List α)
    (hs : ∀ k i s x, xs[i]? = some x → F (k + 1) i s = F k (i + 1) (step s x)) (he : ∀ k s, F (k + 1) xs.length s = E k s) :
    ∀ d i k s, i + d = xs.length → F (k + d + 1) i s = E k ((xs.drop i).foldl step s) := by
  intro d
  induction d with
  | zero => intro i k s h; obtain rfl : i = xs.length := h; rw [List.drop_length]; exact he k s
  | succ d ih =>
    intro i k s h
    have hi : i < xs.length := by omega
    rw [show k + (d + 1) + 1 = (k + d + 1) + 1 by omega, hs (k + d + 1) i s xs[i] (List.getElem?_eq_getElem hi), ih (i + 1) k _ (by omega), List.drop_eq_getElem_cons hi]
    rfl
/-- A loop that looks for the first element at which p holds, and then answers b. -/
theorem any_loop {α ρ : Type} (F : Nat → Nat → Option ρ) (E : Nat → Option ρ) (p : α → Bool) (b : ρ) (xs : List α)
    (ht : ∀ k i x, xs[i]? = some x → p x = true → F (k + 1) i = some b) (hf : ∀ k i x, xs[i]? = some x → p x = false → F (k + 1) i = F k (i + 1)) (he : ∀ k, F (k + 1) xs.length = E k) :
    ∀ d i k, i + d = xs.length → F (k + d + 1) i = if (xs.drop i).any p then some b else E k := by
  intro d
  induction d with
  | zero => intro i k h; obtain rfl : i = xs.length := h; rw [List.drop_length]; simpa using he k
  | succ d ih =>
    intro i k h
    have hi : i < xs.length := by omega
    rw [show k + (d + 1) + 1 = (k + d + 1) + 1 by omega, List.drop_eq_getElem_cons hi, List.any_cons]
    cases hp : p xs[i] with
    | true => rw [ht (k + d + 1) i xs[i] (List.getElem?_eq_getElem hi) hp]; simp
    | false => rw [hf (k + d + 1) i xs[i] (List.getElem?_eq_getElem hi) hp, ih (i + 1) k (by omega)]; simp
/-- .. the first element at which it stops with an answer of its own: g tells it. -/
theorem find_loop {α ρ : Type} (F : Nat → Nat → Option ρ) (E : Nat → Option ρ) (g : Nat → α → Option ρ) (xs : List α)
    (ht : ∀ k i x r, xs[i]? = some x → g i x = some r → F (k + 1) i = some r) (hf : ∀ k i x, xs[i]? = some x → g i x = none → F (k + 1) i = F k (i + 1)) (he : ∀ k, F (k + 1) xs.length = E k) :
    ∀ d i k, i + d = xs.length → F (k + d + 1) i = (((xs.drop i).zipIdx i).findSome? (fun x => g x.2 x.1)).or (E k) := by
  intro d
  induction d with
  | zero => intro i k h; obtain rfl : i = xs.length := h; rw [List.drop_length]; simpa using he k
  | succ d ih =>
    intro i k h
    have hi : i < xs.length := by omega
    rw [show k + (d + 1) + 1 = (k + d + 1) + 1 by omega, List.drop_eq_getElem_cons hi, List.zipIdx_cons, List.findSome?_cons]
    cases hp : g i xs[i] with
    | some r => rw [ht (k + d + 1) i xs[i] r (List.getElem?_eq_getElem hi) hp]; simp
    | none => rw [hf (k + d + 1) i xs[i] (List.getElem?_eq_getElem hi) hp, ih (i + 1) k (by omega)]
theorem lt_get {α : Type} {xs : List α} {i : Nat} {x : α} (h : xs[i]? = some x) : i < xs.length := (List.getElem?_eq_some_iff.1 h).1
/-- Rounds of a loop with one state, from some number of rounds on. -/
theorem ev_fold {α σ ρ : Type} (F : Nat → Nat → σ → Option ρ) (step : σ → α → σ) (xs : List α) (P : Nat → σ → Prop) (r : ρ)
    (hs : ∀ i s x, xs[i]? = some x → P i s → P (i + 1) (step s x) ∧ (Ev (fun k => F k (i + 1) (step s x)) r → Ev (fun k => F k i s) r)) :
    ∀ d i s, i + d = xs.length → P i s → (P xs.length ((xs.drop i).foldl step s) → Ev (fun k => F k xs.length ((xs.drop i).foldl step s)) r) → Ev (fun k => F k i s) r := by
  intro d
  induction d with
  | zero => intro i s h hp hE; obtain rfl : i = xs.length := h; rw [List.drop_length] at hE; exact hE hp
  | succ d ih =>
    intro i s h hp hE
    have hi : i < xs.length := by omega
    obtain ⟨h1, h2⟩ := hs i s xs[i] (List.getElem?_eq_getElem hi) hp
    refine h2 (ih (i + 1) _ (by omega) h1 ?_)
    rw [List.drop_eq_getElem_cons hi] at hE
    exact hE
end Go.Proofs.Ytbkfnbbngnocbaa.Px
namespace Go.Proofs.Ytbkfnbbngnocbaa.Px
open Go.RowKit
def marks (rs : List Int) (l : List Nat) : List Int := l.foldl (fun r i => r.set i (-1)) rs
theorem marks_len (l : List Nat) : ∀ rs, (marks rs l).length = rs.length := by
  induction l with
  | nil => intro rs; rfl
  | cons i l ih => intro rs; show (marks (rs.set i (-1)) l).length = _; rw [ih]; simp
theorem marks_in (l : List Nat) : ∀ (rs : List Int) (i : Nat), i < rs.length → i ∈ l → (marks rs l).getD i 0 = -1 := by
  induction l with
  | nil => intro rs i _ h; cases h
  | cons j l ih =>
    intro rs i hi h
    show (marks (rs.set j (-1)) l).getD i 0 = -1
    by_cases hl : i ∈ l
    · exact ih _ i (by simpa using hi) hl
    · obtain rfl : i = j := by
        rcases List.mem_cons.1 h with h | h
        · exact h
        · exact absurd h hl
      clear h
      have : ∀ (l : List Nat) (rs : List Int), i ∉ l → (marks rs l).getD i 0 = rs.getD i 0 := by
        intro l
        induction l with
        | nil => intro rs _; rfl
        | cons j l ih =>
          intro rs h
          show (marks (rs.set j (-1)) l).getD i 0 = _
          rw [ih _ (fun x => h (List.mem_cons_of_mem _ x))]
          have hj : j ≠ i := fun e => h (e ▸ List.mem_cons_self)
          simp [List.getD_eq_getElem?_getD, List.getElem?_set_ne hj]
      rw [this l _ hl]
      simp [List.getD_eq_getElem?_getD, List.getElem?_set_self hi]
theorem marks_out (i : Nat) : ∀ (l : List Nat) (rs : List Int), i ∉ l → (marks rs l).getD i 0 = rs.getD i 0 := by
  intro l
  induction l with
  | nil => intro rs _; rfl
  | cons j l ih =>
    intro rs h
    show (marks (rs.set j (-1)) l).getD i 0 = _
    rw [ih _ (fun x => h (List.mem_cons_of_mem _ x))]
    have hj : j ≠ i := fun e => h (e ▸ List.mem_cons_self)
    simp [List.getD_eq_getElem?_getD, List.getElem?_set_ne hj]
theorem nextBest (rs : List Int) (h0 : ∀ r ∈ rs, 0 ≤ r) (ord : List Nat) (hp : ord.Perm (List.range rs.length)) (hs : ord.Pairwise (Before rs)) (j : Nat) (hj : j < ord.length) :
    ∀ i, i < rs.length → i ≠ ord[j] → Before (marks rs (ord.take j)) ord[j] i := by
  intro i hi hne
  have hnd : ord.Nodup := hp.nodup_iff.2 List.nodup_range
  have hb : ord[j] < rs.length := List.mem_range.1 (hp.mem_iff.1 (List.getElem_mem hj))
  have hbn : ord[j] ∉ ord.take j := by
    intro h
    obtain ⟨m, hm, e⟩ := List.mem_iff_getElem.1 h
    rw [List.getElem_take] at e
    have hmj : m < j := by simp at hm; omega
    have hml : m < ord.length := by omega
    have := (List.getElem_inj (h₀ := hml) (h₁ := hj) hnd).1 e
    omega
  have hpos : 0 ≤ rs.getD ord[j] 0 := by
    rw [List.getD_eq_getElem?_getD, List.getElem?_eq_getElem hb]
    exact h0 _ (List.getElem_mem hb)
  unfold Before
  rw [marks_out _ _ _ hbn]
  by_cases h : i ∈ ord.take j
  · rw [marks_in _ _ i hi h]
    left; omega
  · rw [marks_out _ _ _ h]
    obtain ⟨m, hm, e⟩ := List.mem_iff_getElem.1 (hp.mem_iff.2 (List.mem_range.2 hi))
    have hmj : j < m := by
      rcases Nat.lt_trichotomy m j with h1 | h1 | h1
      · exact absurd (List.mem_iff_getElem.2 ⟨m, by simp; omega, by rw [List.getElem_take]; exact e⟩) h
      · subst h1; exact absurd e.symm hne
      · exact h1
    have := List.pairwise_iff_getElem.1 hs j m hj hm hmj
    rw [e] at this
    exact this
theorem bestUnique (xs : List Int) (a b : Nat) (ha : a < xs.length) (hb : b < xs.length) (h1 : ∀ i, i < xs.length → i ≠ a → Before xs a i) (h2 : ∀ i, i < xs.length → i ≠ b → Before xs b i) : a = b := by
  by_cases e : a = b
  · exact e
  · have x := h1 b hb (Ne.symm e)
    have y := h2 a ha e
    unfold Before at x y
    omega
def bmp (ps : List Int) (i : Nat) : List Int := ps.set i (wrap64 (ps.getD i 0 + 1))
theorem bmps_len (l : List Nat) : ∀ ps : List Int, (l.foldl bmp ps).length = ps.length := by
  induction l with
  | nil => intro ps; rfl
  | cons i l ih => intro ps; rw [List.foldl_cons, ih]; unfold bmp; simp
theorem getD_set_ne (l : List Int) (i j : Nat) (x : Int) (h : j ≠ i) : (l.set j x).getD i 0 = l.getD i 0 := by
  simp [List.getD_eq_getElem?_getD, List.getElem?_set_ne h]
theorem getD_set_eq (l : List Int) (i : Nat) (x : Int) (h : i < l.length) : (l.set i x).getD i 0 = x := by
  simp [List.getD_eq_getElem?_getD, List.getElem?_set_self h]
theorem bmps_out (i : Nat) : ∀ (l : List Nat) (ps : List Int), i ∉ l → (l.foldl bmp ps).getD i 0 = ps.getD i 0 := by
  intro l
  induction l with
  | nil => intro ps _; rfl
  | cons j l ih =>
    intro ps h
    rw [List.foldl_cons, ih _ (fun x => h (List.mem_cons_of_mem _ x))]
    exact getD_set_ne _ _ _ _ (fun e => h (e ▸ List.mem_cons_self))
theorem bmps_in (i : Nat) : ∀ (l : List Nat) (ps : List Int), l.Nodup → i < ps.length → i ∈ l → (l.foldl bmp ps).getD i 0 = wrap64 (ps.getD i 0 + 1) := by
  intro l
  induction l with
  | nil => intro ps _ _ h; cases h
  | cons j l ih =>
    intro ps hn hi h
    rw [List.nodup_cons] at hn
    rw [List.foldl_cons]
    rcases List.mem_cons.1 h with h | h
    · subst h
      rw [bmps_out _ _ _ hn.1]
      exact getD_set_eq _ _ _ hi
    · rw [ih (bmp ps j) hn.2 (by unfold bmp; simpa using hi) h]
      have : j ≠ i := fun e => hn.1 (e ▸ h)
      unfold bmp
      rw [getD_set_ne _ _ _ _ this]
theorem sum_set (l : List Int) : ∀ (i : Nat) (x : Int), i < l.length → (l.set i x).sum = l.sum - l.getD i 0 + x := by
  induction l with
  | nil => intro i x h; cases h
  | cons y l ih =>
    intro i x h
    cases i with
    | zero => simp; omega
    | succ i =>
      have := ih i x (by simpa using h)
      simp [this]; omega
theorem bmps_sum : ∀ (l : List Nat) (ps : List Int), l.Nodup → (∀ i ∈ l, i < ps.length) → (∀ x ∈ ps, 0 ≤ x ∧ x < 4611686018427387904) → (l.foldl bmp ps).sum = ps.sum + l.length := by
  intro l
  induction l with
  | nil => intro ps _ _ _; simp
  | cons j l ih =>
    intro ps hn hl hb
    rw [List.nodup_cons] at hn
    have hj := hl j List.mem_cons_self
    have key : ∀ (l : List Nat) (ps : List Int), l.Nodup → (∀ i ∈ l, i < ps.length) → (∀ i ∈ l, 0 ≤ ps.getD i 0 ∧ ps.getD i 0 < 4611686018427387904) → (l.foldl bmp ps).sum = ps.sum + l.length := by
      intro l
      induction l with
      | nil => intro ps _ _ _; simp
      | cons j l ih =>
        intro ps hn hl hb
        rw [List.nodup_cons] at hn
        have hj := hl j List.mem_cons_self
        have hbj := hb j List.mem_cons_self
        rw [List.foldl_cons, ih (bmp ps j) hn.2 (fun i hi => by unfold bmp; simpa using hl i (List.mem_cons_of_mem _ hi)) (fun i hi => by
          have : j ≠ i := fun e => hn.1 (e ▸ hi)
          unfold bmp
          rw [getD_set_ne _ _ _ _ this]
          exact hb i (List.mem_cons_of_mem _ hi))]
        unfold bmp
        rw [sum_set _ _ _ hj]
        have : wrap64 (ps.getD j 0 + 1) = ps.getD j 0 + 1 := by unfold wrap64; omega
        rw [this]
        simp only [List.length_cons]
        omega
    refine key (j :: l) ps (List.nodup_cons.2 hn) hl (fun i hi => ?_)
    have := hl i hi
    rw [List.getD_eq_getElem?_getD, List.getElem?_eq_getElem this]
    exact hb _ (List.getElem_mem this)
theorem sum_div_mod (a s : Int) : ∀ l : List Int, (l.map (fun w => a * w / s)).sum * s + (l.map (fun w => a * w % s)).sum = a * l.sum
  | [] => by simp
  | w :: l => by
    have ih := sum_div_mod a s l
    have h := Int.emod_add_mul_ediv (a * w) s
    have hc := Int.mul_comm (a * w / s) s
    simp only [List.map_cons, List.sum_cons]
    rw [Int.add_mul, Int.mul_add]
    omega
theorem sum_nonneg : ∀ l : List Int, (∀ x ∈ l, 0 ≤ x) → 0 ≤ l.sum
  | [], _ => by simp
  | x :: l, h => by
    have h1 := sum_nonneg l (fun y hy => h y (List.mem_cons_of_mem _ hy))
    have h2 := h x List.mem_cons_self
    simp only [List.sum_cons]; omega
theorem sum_le (c : Int) : ∀ l : List Int, (∀ x ∈ l, x ≤ c) → l.sum ≤ c * l.length
  | [], _ => by simp
  | x :: l, h => by
    have h1 := sum_le c l (fun y hy => h y (List.mem_cons_of_mem _ hy))
    have h2 := h x List.mem_cons_self
    simp only [List.sum_cons, List.length_cons]
    rw [Int.natCast_succ, Int.mul_add]
    omega
theorem mem_le_sum : ∀ l : List Int, (∀ x ∈ l, 0 ≤ x) → ∀ x ∈ l, x ≤ l.sum
  | [], _, x, h => by cases h
  | y :: l, h, x, hx => by
    have h1 := sum_nonneg l (fun y hy => h y (List.mem_cons_of_mem _ hy))
    have h2 := h y List.mem_cons_self
    simp only [List.sum_cons]
    rcases List.mem_cons.1 hx with rfl | hx
    · omega
    · have := mem_le_sum l (fun y hy => h y (List.mem_cons_of_mem _ hy)) x hx
      omega
theorem perm_sum {l l' : List Int} (h : l.Perm l') : l.sum = l'.sum := by
  induction h with
  | nil => rfl
  | cons x _ ih => simp [ih]
  | swap x y l => simp; omega
  | trans _ _ h1 h2 => rw [h1, h2]
theorem range_getD (xs : List Int) : (List.range xs.length).map (fun i => xs.getD i 0) = xs := by
  apply List.ext_getElem
  · simp
  · intro i h1 h2
    simp [List.getElem?_eq_getElem h2]
theorem ord_sum (xs : List Int) (ord : List Nat) (hp : ord.Perm (List.range xs.length)) : (ord.map (fun i => xs.getD i 0)).sum = xs.sum := by
  rw [perm_sum (hp.map _), range_getD]
theorem getD_mem {xs : List Int} {i : Nat} (h : i < xs.length) : xs.getD i 0 ∈ xs := by
  rw [List.getD_eq_getElem?_getD, List.getElem?_eq_getElem h]; exact List.getElem_mem h
theorem rest_pos (rs : List Int) (s : Int) (d : Nat) (h : ∀ r ∈ rs, 0 ≤ r ∧ r < s) (hs : 0 < s) (hd : (d : Int) * s = rs.sum) (ord : List Nat) (hp : ord.Perm (List.range rs.length)) (ho : ord.Pairwise (Before rs)) : ∀ i ∈ ord.take d, 0 < rs.getD i 0 := by
  intro i hi
  obtain ⟨j, hj, e⟩ := List.mem_iff_getElem.1 hi
  have hjd : j < d ∧ j < ord.length := by simp at hj; omega
  rw [List.getElem_take] at e
  have hir : i < rs.length := by rw [← e]; exact List.mem_range.1 (hp.mem_iff.1 (List.getElem_mem hjd.2))
  have h0 := h _ (getD_mem hir)
  by_cases hz : 0 < rs.getD i 0
  · exact hz
  exfalso
  have hsum := ord_sum rs ord hp
  rw [← List.take_append_drop j ord, List.map_append, List.sum_append] at hsum
  have h1 := sum_le (s - 1) ((ord.take j).map (fun i => rs.getD i 0)) (fun x hx => by
    obtain ⟨m, hm, rfl⟩ := List.mem_map.1 hx
    have := h _ (getD_mem (List.mem_range.1 (hp.mem_iff.1 (List.mem_of_mem_take hm))))
    omega)
  have h2 := sum_le 0 ((ord.drop j).map (fun i => rs.getD i 0)) (fun x hx => by
    obtain ⟨m, hm, rfl⟩ := List.mem_map.1 hx
    obtain ⟨t, ht, e2⟩ := List.mem_iff_getElem.1 hm
    rw [List.getElem_drop] at e2
    rcases Nat.eq_zero_or_pos t with h3 | h3
    · subst h3
      simp at e2
      rw [← e2, e]; omega
    · have := List.pairwise_iff_getElem.1 ho j (j + t) hjd.2 (by simp at ht; omega) (by omega)
      rw [e, e2] at this
      unfold Before at this
      omega)
  have hl : (ord.take j).length = j := by simp; omega
  rw [List.length_map, hl] at h1
  rw [Int.zero_mul] at h2
  have h3 : (j : Int) + 1 ≤ d := by omega
  have h4 : ((j : Int) + 1) * s ≤ d * s := Int.mul_le_mul_of_nonneg_right h3 (Int.le_of_lt hs)
  rw [Int.add_mul] at h4
  rw [Int.sub_mul, Int.mul_comm s] at h1
  omega
theorem take_before (rs : List Int) (d : Nat) (ord : List Nat) (hp : ord.Perm (List.range rs.length)) (ho : ord.Pairwise (Before rs)) (i k : Nat) (hi : i < rs.length) (hik : Before rs i k) (hk : k ∈ ord.take d) : i ∈ ord.take d := by
  obtain ⟨m, hm, e⟩ := List.mem_iff_getElem.1 hk
  rw [List.getElem_take] at e
  have hmd : m < d ∧ m < ord.length := by simp at hm; omega
  obtain ⟨t, ht, e2⟩ := List.mem_iff_getElem.1 (hp.mem_iff.2 (List.mem_range.2 hi))
  rcases Nat.lt_trichotomy t m with h1 | h1 | h1
  · exact List.mem_iff_getElem.2 ⟨t, by simp; omega, by rw [List.getElem_take]; exact e2⟩
  · subst h1
    rw [← e2, e]
    exact hk
  · have := List.pairwise_iff_getElem.1 ho m t hmd.2 ht h1
    rw [e, e2] at this
    unfold Before at this hik
    omega
/-- The shares of a division, ahead of the rounding. -/
structure Sound (a : Int) (l : List Int) : Prop where
  a0 : 0 ≤ a
  a1 : a ≤ 1099511627776
  w : ∀ x ∈ l, 0 ≤ x ∧ x ≤ 1000000000
  s : 0 < l.sum
  n : l.length ≤ 64
def quots (a : Int) (l : List Int) : List Int := l.map (fun w => a * w / l.sum)
def rests (a : Int) (l : List Int) : List Int := l.map (fun w => a * w % l.sum)
theorem Sound.rest {a : Int} {l : List Int} (h : Sound a l) : ∀ r ∈ rests a l, 0 ≤ r ∧ r < l.sum := by
  intro r hr
  obtain ⟨w, hw, rfl⟩ := List.mem_map.1 hr
  exact ⟨Int.emod_nonneg _ (Int.ne_of_gt h.s), Int.emod_lt_of_pos _ h.s⟩
theorem Sound.quot {a : Int} {l : List Int} (h : Sound a l) : ∀ q ∈ quots a l, 0 ≤ q ∧ q ≤ a := by
  intro r hr
  obtain ⟨w, hw, rfl⟩ := List.mem_map.1 hr
  refine ⟨Int.ediv_nonneg (Int.mul_nonneg h.a0 (h.w w hw).1) (Int.le_of_lt h.s), Int.ediv_le_of_le_mul h.s ?_⟩
  exact Int.mul_le_mul_of_nonneg_left (mem_le_sum l (fun x hx => (h.w x hx).1) w hw) h.a0
theorem Sound.total {a : Int} {l : List Int} (h : Sound a l) : (a - (quots a l).sum) * l.sum = (rests a l).sum := by
  have := sum_div_mod a l.sum l
  unfold quots rests
  rw [Int.sub_mul]
  omega
theorem Sound.left {a : Int} {l : List Int} (h : Sound a l) : 0 ≤ a - (quots a l).sum ∧ a - (quots a l).sum < l.length := by
  have ht := h.total
  have h1 := sum_nonneg (rests a l) (fun r hr => (h.rest r hr).1)
  have h2 := sum_le (l.sum - 1) (rests a l) (fun r hr => by have := (h.rest r hr).2; omega)
  have hs := h.s
  have hne : 0 < l.length := by
    rcases Nat.eq_zero_or_pos l.length with h0 | h0
    · have : l = [] := List.length_eq_zero_iff.1 h0
      subst this
      simp at hs
    · exact h0
  have hl : (rests a l).length = l.length := by simp [rests]
  rw [hl, Int.sub_mul] at h2
  generalize hd : a - (quots a l).sum = d at ht
  constructor
  · by_cases hneg : 0 ≤ d
    · exact hneg
    · have : (d + 1) * l.sum ≤ 0 := Int.mul_nonpos_of_nonpos_of_nonneg (by omega) (Int.le_of_lt hs)
      rw [Int.add_mul] at this
      omega
  · by_cases hlt : d < l.length
    · exact hlt
    · have : (l.length : Int) * l.sum ≤ d * l.sum := Int.mul_le_mul_of_nonneg_right (by omega) (Int.le_of_lt hs)
      rw [Int.mul_comm] at this
      omega
theorem quots_len (a : Int) (l : List Int) : (quots a l).length = l.length := by simp [quots]
theorem rests_len (a : Int) (l : List Int) : (rests a l).length = l.length := by simp [rests]
theorem quots_at (a : Int) (l : List Int) (i : Nat) (h : i < l.length) : (quots a l).getD i 0 = a * l.getD i 0 / l.sum := by
  simp [quots, List.getD_eq_getElem?_getD, List.getElem?_map, List.getElem?_eq_getElem h]
theorem rests_at (a : Int) (l : List Int) (i : Nat) (h : i < l.length) : (rests a l).getD i 0 = a * l.getD i 0 % l.sum := by
  simp [rests, List.getD_eq_getElem?_getD, List.getElem?_map, List.getElem?_eq_getElem h]
def picks (a : Int) (l : List Int) : List Nat := (orderOf (rests a l)).take (a - (quots a l).sum).toNat
def division (a : Int) (l : List Int) : List Int := (picks a l).foldl bmp (quots a l)
theorem division_len (a : Int) (l : List Int) : (division a l).length = l.length := by unfold division; rw [bmps_len, quots_len]
theorem picks_nodup (a : Int) (l : List Int) : (picks a l).Nodup := ((orderOf_spec (rests a l)).1.nodup_iff.2 List.nodup_range).sublist (List.take_sublist _ _)
theorem picks_lt {a : Int} {l : List Int} {i : Nat} (h : i ∈ picks a l) : i < l.length := by
  have := List.mem_range.1 ((orderOf_spec (rests a l)).1.mem_iff.1 (List.mem_of_mem_take h))
  rwa [rests_len] at this
theorem Sound.picks_len {a : Int} {l : List Int} (h : Sound a l) : ((picks a l).length : Int) = a - (quots a l).sum := by
  have h1 := h.left
  have h2 := (orderOf_spec (rests a l)).1.length_eq
  rw [List.length_range, rests_len] at h2
  unfold picks
  rw [List.length_take, h2]
  omega
theorem Sound.quot_b {a : Int} {l : List Int} (h : Sound a l) : ∀ x ∈ quots a l, 0 ≤ x ∧ x < 4611686018427387904 := fun x hx => by
  have := h.quot x hx
  have := h.a1
  omega
theorem Sound.sum {a : Int} {l : List Int} (h : Sound a l) : (division a l).sum = a := by
  have h1 := bmps_sum (picks a l) (quots a l) (picks_nodup a l) (fun i hi => by rw [quots_len]; exact picks_lt hi) h.quot_b
  unfold division
  rw [h1, h.picks_len]
  omega
theorem Sound.at_in {a : Int} {l : List Int} (h : Sound a l) (i : Nat) (hi : i ∈ picks a l) : (division a l).getD i 0 = (quots a l).getD i 0 + 1 := by
  have hl := picks_lt hi
  unfold division
  rw [bmps_in i _ _ (picks_nodup a l) (by rw [quots_len]; exact hl) hi]
  have := h.quot_b _ (getD_mem (xs := quots a l) (i := i) (by rw [quots_len]; exact hl))
  unfold wrap64
  omega
theorem at_out (a : Int) (l : List Int) (i : Nat) (hi : i ∉ picks a l) : (division a l).getD i 0 = (quots a l).getD i 0 := by
  unfold division
  exact bmps_out i _ _ hi
theorem Sound.pos {a : Int} {l : List Int} (h : Sound a l) : ∀ i ∈ picks a l, 0 < (rests a l).getD i 0 := by
  have h1 := h.left
  refine rest_pos (rests a l) l.sum (a - (quots a l).sum).toNat h.rest h.s ?_ _ (orderOf_spec (rests a l)).1 (orderOf_spec (rests a l)).2
  rw [Int.toNat_of_nonneg h1.1, h.total]
theorem Sound.exact {a : Int} {l : List Int} (h : Sound a l) (i : Nat) : (division a l).getD i 0 = (quots a l).getD i 0 ∨ (rests a l).getD i 0 ≠ 0 ∧ (division a l).getD i 0 = (quots a l).getD i 0 + 1 := by
  by_cases hi : i ∈ picks a l
  · exact .inr ⟨by have := h.pos i hi; omega, h.at_in i hi⟩
  · exact .inl (at_out a l i hi)
theorem before_picks {a : Int} {l : List Int} (i k : Nat) (hi : i < l.length) (hb : Before (rests a l) i k) (hk : k ∈ picks a l) : i ∈ picks a l :=
  take_before (rests a l) _ _ (orderOf_spec (rests a l)).1 (orderOf_spec (rests a l)).2 i k (by rw [rests_len]; exact hi) hb hk
/-- A greater weight has no smaller part. -/
theorem Sound.mono {a : Int} {l : List Int} (h : Sound a l) (i k : Nat) (hi : i < l.length) (hk : k < l.length) (hw : l.getD k 0 < l.getD i 0) : (division a l).getD k 0 ≤ (division a l).getD i 0 := by
  have eq_i := Int.emod_add_mul_ediv (a * l.getD i 0) l.sum
  have eq_k := Int.emod_add_mul_ediv (a * l.getD k 0) l.sum
  have qi := quots_at a l i hi
  have qk := quots_at a l k hk
  have ri := rests_at a l i hi
  have rk := rests_at a l k hk
  have hq : a * l.getD k 0 / l.sum ≤ a * l.getD i 0 / l.sum := Int.ediv_le_ediv h.s (Int.mul_le_mul_of_nonneg_left (Int.le_of_lt hw) h.a0)
  by_cases hin : i ∈ picks a l
  · rw [h.at_in i hin]
    rcases h.exact k with e | ⟨_, e⟩ <;> omega
  · rw [at_out a l i hin]
    by_cases hkn : k ∈ picks a l
    · rw [h.at_in k hkn]
      by_cases hlt : a * l.getD k 0 / l.sum < a * l.getD i 0 / l.sum
      · omega
      · exfalso
        have he : a * l.getD k 0 / l.sum = a * l.getD i 0 / l.sum := by omega
        refine hin (before_picks i k hi (.inl ?_) hkn)
        rw [ri, rk]
        have ha : 0 < a := by
          rcases Int.lt_or_eq_of_le h.a0 with h1 | h1
          · exact h1
          · have := h.pos k hkn
            rw [rk, ← h1] at this
            simp at this
        have hm : a * l.getD k 0 < a * l.getD i 0 := Int.mul_lt_mul_of_pos_left hw ha
        rw [he] at eq_k
        omega
    · rw [at_out a l k hkn]
      omega
/-- Of equal weights the earlier one has no smaller part. -/
theorem Sound.first {a : Int} {l : List Int} (h : Sound a l) (i k : Nat) (hki : k < i) (hi : i < l.length) (hw : l.getD k 0 = l.getD i 0) : (division a l).getD i 0 ≤ (division a l).getD k 0 := by
  have qi := quots_at a l i hi
  have qk := quots_at a l k (by omega)
  have ri := rests_at a l i hi
  have rk := rests_at a l k (by omega)
  rw [hw] at qk rk
  by_cases hin : i ∈ picks a l
  · have hkn := before_picks k i (by omega) (.inr ⟨by rw [ri, rk], hki⟩) hin
    rw [h.at_in i hin, h.at_in k hkn]
    omega
  · rw [at_out a l i hin]
    rcases h.exact k with e | ⟨_, e⟩ <;> omega
theorem sum_replicate (n : Nat) (x : Int) : (List.replicate n x).sum = n * x := by
  induction n with
  | zero => simp
  | succ n ih => rw [List.replicate_succ, List.sum_cons, ih, Int.natCast_succ, Int.add_mul]; omega
theorem order_range (rs : List Int) (h : ∀ i k, i < rs.length → k < rs.length → rs.getD i 0 = rs.getD k 0) : orderOf rs = List.range rs.length := by
  refine order_unique (Before.asymm rs) _ _ (orderOf_spec rs).1 (orderOf_spec rs).2 ?_
  rw [List.pairwise_iff_getElem]
  intro i j hi hj hij
  simp only [List.getElem_range]
  rw [List.length_range] at hi hj
  exact .inr ⟨h j i hj hi, hij⟩
theorem even_sound (a : Int) (n : Nat) (w : Int) (h0 : 0 ≤ a) (h1 : a ≤ 1099511627776) (hn : 1 ≤ n) (hn1 : n ≤ 64) (hw : 1 ≤ w) (hw1 : w ≤ 1000000000) : Sound a (List.replicate n w) :=
  ⟨h0, h1, fun x hx => by obtain ⟨_, rfl⟩ := List.mem_replicate.1 hx; omega, by rw [sum_replicate]; exact Int.mul_pos (by omega) (by omega), by simpa using hn1⟩
theorem even_at (a : Int) (n : Nat) (w : Int) (h0 : 0 ≤ a) (h1 : a ≤ 1099511627776) (hn : 1 ≤ n) (hn1 : n ≤ 64) (hw : 1 ≤ w) (hw1 : w ≤ 1000000000) (i : Nat) (hi : i < n) :
    (division a (List.replicate n w)).getD i 0 = a / n + (if (i : Int) < a % n then 1 else 0) := by
  have hS := even_sound a n w h0 h1 hn hn1 hw hw1
  have hl : (List.replicate n w).length = n := by simp
  have hs := sum_replicate n w
  have hg : ∀ i, i < n → (List.replicate n w).getD i 0 = w := fun i hi => by simp [List.getD_eq_getElem?_getD, hi]
  have hq : ∀ i, i < n → (quots a (List.replicate n w)).getD i 0 = a / n := fun i hi => by
    rw [quots_at _ _ _ (by omega), hg i hi, hs, Int.mul_ediv_mul_of_pos_left _ _ (by omega)]
  have hqs : quots a (List.replicate n w) = List.replicate n (a / n) := by
    apply List.ext_getElem
    · simp [quots]
    · intro i h2 h3
      have := hq i (by simpa using h3)
      rw [List.getD_eq_getElem?_getD, List.getElem?_eq_getElem h2, Option.getD_some] at this
      rw [this]
      simp
  have hd : a - (quots a (List.replicate n w)).sum = a % n := by
    rw [hqs, sum_replicate]
    have := Int.emod_add_mul_ediv a n
    omega
  have hm0 := Int.emod_nonneg a (show (n : Int) ≠ 0 by omega)
  have hm1 := Int.emod_lt_of_pos a (show (0 : Int) < n by omega)
  have hpk : picks a (List.replicate n w) = List.range (a % n).toNat := by
    unfold picks
    rw [hd, order_range, rests_len, hl, List.take_range, Nat.min_eq_left (by omega)]
    intro i k hi hk
    rw [rests_len, hl] at hi hk
    rw [rests_at _ _ _ (by omega), rests_at _ _ _ (by omega), hg i hi, hg k hk]
  by_cases hin : i ∈ picks a (List.replicate n w)
  · rw [hS.at_in i hin, hq i hi, if_pos]
    rw [hpk, List.mem_range] at hin
    omega
  · rw [at_out _ _ _ hin, hq i hi, if_neg, Int.add_zero]
    rw [hpk, List.mem_range] at hin
    omega
theorem bmps_append (z : Int) : ∀ (l : List Nat) (ps : List Int), (∀ i ∈ l, i < ps.length) → l.foldl bmp (ps ++ [z]) = l.foldl bmp ps ++ [z]
  | [], ps, _ => rfl
  | i :: l, ps, h => by
    have hi := h i List.mem_cons_self
    rw [List.foldl_cons, List.foldl_cons, ← bmps_append z l (bmp ps i) (fun j hj => by unfold bmp; simpa using h j (List.mem_cons_of_mem _ hj))]
    congr 1
    unfold bmp
    rw [List.set_append_left _ _ hi]
    simp [List.getD_eq_getElem?_getD, List.getElem?_append_left hi]
theorem zero_sound {a : Int} {l : List Int} (h : Sound a l) (hn : l.length ≤ 63) : Sound a (l ++ [0]) :=
  ⟨h.a0, h.a1, fun x hx => by
    rcases List.mem_append.1 hx with hx | hx
    · exact h.w x hx
    · obtain rfl : x = 0 := by simpa using hx
      omega, by simpa using h.s, by simp; omega⟩
theorem Sound.zero {a : Int} {l : List Int} (h : Sound a l) : division a (l ++ [0]) = division a l ++ [0] := by
  have hs : (l ++ [0]).sum = l.sum := by simp
  have hq : quots a (l ++ [0]) = quots a l ++ [0] := by unfold quots; rw [hs]; simp
  have hr : rests a (l ++ [0]) = rests a l ++ [0] := by unfold rests; rw [hs]; simp
  have hg1 : ∀ i, i < l.length → (rests a l ++ [0]).getD i 0 = (rests a l).getD i 0 := fun i hi => by
    simp [List.getD_eq_getElem?_getD, List.getElem?_append_left (show i < (rests a l).length by rw [rests_len]; exact hi)]
  have hg2 : (rests a l ++ [0]).getD l.length 0 = 0 := by
    have := rests_len a l
    simp [List.getD_eq_getElem?_getD, ← this]
  have hol := (orderOf_spec (rests a l)).1
  have hos := (orderOf_spec (rests a l)).2
  rw [rests_len] at hol
  have hm : ∀ x, x ∈ orderOf (rests a l) → x < l.length := fun x hx => List.mem_range.1 (hol.mem_iff.1 hx)
  have ho : orderOf (rests a l ++ [0]) = orderOf (rests a l) ++ [l.length] := by
    refine order_unique (Before.asymm (rests a l ++ [0])) _ _ ?_ (orderOf_spec _).2 ?_
    · refine (orderOf_spec _).1.trans ?_
      rw [List.length_append, rests_len, List.length_singleton, List.range_succ]
      exact (hol.append_right [l.length]).symm
    · rw [List.pairwise_append]
      refine ⟨hos.imp_of_mem fun {x y} hx hy hxy => ?_, List.pairwise_singleton _ _, fun x hx y hy => ?_⟩
      · unfold Before at hxy ⊢
        rw [hg1 x (hm x hx), hg1 y (hm y hy)]
        exact hxy
      · obtain rfl : y = l.length := by simpa using hy
        have := hm x hx
        have h0 := (h.rest _ (getD_mem (xs := rests a l) (i := x) (by rw [rests_len]; exact this))).1
        unfold Before
        rw [hg1 x this, hg2]
        omega
  have hd := h.left
  have hp : picks a (l ++ [0]) = picks a l := by
    unfold picks
    rw [hq, hr, ho, List.sum_append]
    have hle : (orderOf (rests a l)).length = l.length := by rw [hol.length_eq, List.length_range]
    simp only [List.sum_cons, List.sum_nil, Int.add_zero]
    rw [List.take_append_of_le_length (by omega)]
  unfold division
  rw [hp, hq]
  exact bmps_append 0 _ _ (fun i hi => by rw [quots_len]; exact picks_lt hi)
/-- A single weight has everything. -/
theorem sum_only (n i : Nat) (v : Int) (h : i < n) : ((List.replicate n (0 : Int)).set i v).sum = v := by
  rw [sum_set _ _ _ (by simpa using h), sum_replicate]
  simp [List.getD_eq_getElem?_getD, h]
theorem only_at (n i k : Nat) (v : Int) (hi : i < n) (_hk : k < n) : ((List.replicate n (0 : Int)).set i v).getD k 0 = if k = i then v else 0 := by
  by_cases e : k = i
  · subst e
    rw [if_pos rfl]
    exact getD_set_eq _ _ _ (by simpa using hi)
  · rw [if_neg e, getD_set_ne _ _ _ _ (Ne.symm e)]
    simp [List.getD_eq_getElem?_getD, _hk]
theorem only_sound (a : Int) (n i : Nat) (v : Int) (h0 : 0 ≤ a) (h1 : a ≤ 1099511627776) (hn : n ≤ 64) (hi : i < n) (hv : 1 ≤ v) (hv1 : v ≤ 1000000000) : Sound a ((List.replicate n (0 : Int)).set i v) :=
  ⟨h0, h1, fun x hx => by
    rcases List.mem_or_eq_of_mem_set hx with hx | rfl
    · obtain ⟨_, rfl⟩ := List.mem_replicate.1 hx; omega
    · omega, by rw [sum_only n i v hi]; omega, by simpa using hn⟩
theorem division_only (a : Int) (n i : Nat) (v : Int) (h0 : 0 ≤ a) (h1 : a ≤ 1099511627776) (hn : n ≤ 64) (hi : i < n) (hv : 1 ≤ v) (hv1 : v ≤ 1000000000) (k : Nat) (hk : k < n) :
    (division a ((List.replicate n (0 : Int)).set i v)).getD k 0 = if k = i then a else 0 := by
  have hS := only_sound a n i v h0 h1 hn hi hv hv1
  have hl : ((List.replicate n (0 : Int)).set i v).length = n := by simp
  have hq : ∀ k, k < n → (quots a ((List.replicate n (0 : Int)).set i v)).getD k 0 = if k = i then a else 0 := fun k hk => by
    rw [quots_at _ _ _ (by omega), sum_only n i v hi, only_at n i k v hi hk]
    by_cases e : k = i
    · rw [if_pos e, if_pos e, Int.mul_ediv_cancel _ (by omega)]
    · rw [if_neg e, if_neg e]; simp
  have hqs : quots a ((List.replicate n (0 : Int)).set i v) = (List.replicate n (0 : Int)).set i a := by
    apply List.ext_getElem
    · simp [quots]
    · intro j h2 h3
      have hj : j < n := by simpa using h3
      have e1 := hq j hj
      have e2 := only_at n i j a hi hj
      rw [List.getD_eq_getElem?_getD, List.getElem?_eq_getElem h2, Option.getD_some] at e1
      rw [List.getD_eq_getElem?_getD, List.getElem?_eq_getElem h3, Option.getD_some] at e2
      rw [e1, e2]
  have hp : picks a ((List.replicate n (0 : Int)).set i v) = [] := by
    unfold picks
    rw [hqs, sum_only n i a hi, Int.sub_self]
    rfl
  rw [at_out _ _ _ (by rw [hp]; simp), hq k hk]
end Go.Proofs.Ytbkfnbbngnocbaa.Px
