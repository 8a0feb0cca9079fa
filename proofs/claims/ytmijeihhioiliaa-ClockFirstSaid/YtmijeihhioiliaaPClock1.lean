/- Right and In of the program and of the reference, told plainly. -/
import Derived.Test.YtmijeihhioiliaaPClock0
import Derived.Test.YtmijeihhioiliaaPLoop
import Derived.Test.YtmijeihhioiliaaPx2
import Derived.Test.YtmijeihhioiliaaPx3
import Derived.Test.YtmijeihhioiliaaPx12
import Derived.Test.YtmijeihhioiliaaPx13
namespace Go.Proofs.Ytmijeihhioiliaa.Pure
open Go.RowKit Go.Proofs.Ytmijeihhioiliaa.Px Go.Proofs.YtmijeihhioiliaaW.PrintWords

theorem rd42 {xs : List S42} {i : Nat} {x : S42} (h : xs[i]? = some x) : rd_T42 xs (i : Int) = x := by
  unfold rd_T42
  rw [Int.toNat_natCast, List.getD_eq_getElem?_getD, h, Option.getD_some]
theorem lt_of_get {α : Type} {xs : List α} {i : Nat} {x : α} (h : xs[i]? = some x) : i < xs.length := (List.getElem?_eq_some_iff.1 h).1

/-- Is an element of opening hours wrong? -/
def badHours (x : S42) : Bool := decide (x.f0 < 1) || decide (127 < x.f0) || decide (x.f1 < 0) || decide (x.f2 ≤ x.f1) || decide (86400 < x.f2)
theorem right1_eq (x : S42) : clock_Right_1.f x.f0 x.f1 x.f2 = some (badHours x) := by
  unfold clock_Right_1.f badHours
  by_cases h1 : x.f0 < 1
  · simp [h1]
  · by_cases h2 : 127 < x.f0
    · simp [h1, h2]
    · by_cases h3 : x.f1 < 0
      · simp [h1, h2, h3]
      · by_cases h4 : x.f2 ≤ x.f1 <;> simp [h1, h2, h3, h4]
/-- P2.2. -/
def rightOf (l : List S42) : Bool := if 16 < l.length then false else !l.any badHours
theorem right_eq (l : List S42) : clock_Right.f l = some (rightOf l) := by
  unfold clock_Right.f rightOf
  have e : clock_Right.p = badHours := by
    funext x
    unfold clock_Right.p
    rw [right1_eq]
    rfl
  rw [e]
  by_cases h : 16 < l.length
  · rw [if_pos (by omega), if_pos h]
  · rw [if_neg (by omega), if_neg h]
theorem rright_eq (l : List S42) (k : Nat) (hk : l.length < k) (hl : l.length ≤ 9223372036854775807) : skiarearef02_Right.f k l = some (rightOf l) := by
  unfold skiarearef02_Right.f rightOf
  by_cases h : 16 < l.length
  · rw [if_pos (by omega), if_pos h]
  · rw [if_neg (by omega), if_neg h]
    have key := any_loop (fun k i => skiarearef02_Right.l0 k l (i : Int)) (fun _ => some true) badHours false l (fun k i x hx hp => by
        have hi := lt_of_get hx
        simp only [skiarearef02_Right.l0]
        rw [if_pos (by omega), if_pos (by omega), rd42 hx]
        unfold badHours at hp
        simp only [Bool.or_eq_true, decide_eq_true_eq] at hp
        repeat' split
        all_goals first | rfl | omega) (fun k i x hx hp => by
        have hi := lt_of_get hx
        simp only [skiarearef02_Right.l0]
        unfold badHours at hp
        simp only [Bool.or_eq_false_iff, decide_eq_false_iff_not] at hp
        rw [if_pos (by omega), if_pos (by omega), rd42 hx, if_neg (by omega), if_neg (by omega), if_neg (by omega), if_neg (by omega), if_neg (by omega), wrap_up hi hl]) (fun k => by
        simp only [skiarearef02_Right.l0]
        rw [if_neg (by omega)]) l.length 0 (k - l.length - 1) (by omega)
    rw [show k - l.length - 1 + l.length + 1 = k by omega, List.drop_zero] at key
    exact key.trans (by cases l.any badHours <;> rfl)

/-- Does an element apply on the day wd at the second sc? -/
def onAt (wd sc : Int) (x : S42) : Bool := ((Go.bits .and .i64 (shr .i64 x.f0 wd) 1) == 1) && (decide (x.f1 ≤ sc) && decide (sc < x.f2))
/-- P2.3. -/
def inOf (l : List S42) (t : Int) : Bool := isT t && l.any (onAt (wdOf t) (secOf t))
theorem wd_nonneg {t : Int} (h : isT t = true) : 0 ≤ wdOf t ∧ wdOf t < 7 := by
  unfold wdOf
  rw [if_pos h]
  omega
theorem in_eq (l : List S42) (t : Int) : clock_In.f l t = some (inOf l t) := by
  unfold clock_In.f inOf
  rw [isTime_eq, weekday_eq, second_eq]
  simp only [Option.bind_some]
  cases h : isT t with
  | false => simp
  | true =>
    have hw := (wd_nonneg h).1
    rw [if_pos rfl, if_pos hw]
    have e : clock_In.p (wdOf t) (secOf t) = onAt (wdOf t) (secOf t) := by
      funext x
      unfold clock_In.p clock_on.f onAt
      rw [if_pos hw]
      rfl
    rw [e]
    simp
theorem u64_id {x : Int} (h0 : 0 ≤ x) (h1 : x < 18446744073709551616) : IntKind.u64.wrap x = x := by
  simp [IntKind.wrap, IntKind.bits, IntKind.signed]
  omega
theorem rin_eq (l : List S42) (t : Int) (k : Nat) (hk : l.length < k) (hl : l.length ≤ 9223372036854775807) : skiarearef02_In.f k l t = some (inOf l t) := by
  unfold skiarearef02_In.f inOf
  rw [rtime_eq]
  simp only [Option.bind_some]
  cases h : isT t with
  | false => simp
  | true =>
    obtain ⟨hw0, hw1⟩ := wd_nonneg h
    rw [if_pos rfl]
    have hu := u64_id hw0 (by omega)
    have key := any_loop (fun k i => skiarearef02_In.l0 k l t (i : Int)) (fun _ => some false) (onAt (wdOf t) (secOf t)) true l (fun k i x hx hp => by
        have hi := lt_of_get hx
        simp only [skiarearef02_In.l0]
        unfold onAt at hp
        simp only [Bool.and_eq_true, decide_eq_true_eq] at hp
        rw [if_pos (by omega), if_pos (by omega), rd42 hx, rweekday_eq]
        unfold skiarearef02_on.f
        simp only [Option.bind_some]
        rw [hu, if_pos hw0]
        simp only [Option.bind_some]
        rw [if_pos hp.1, rsecond_eq]
        simp only [Option.bind_some]
        rw [if_pos hp.2.1, if_pos hp.2.2]) (fun k i x hx hp => by
        have hi := lt_of_get hx
        simp only [skiarearef02_In.l0]
        unfold onAt at hp
        rw [if_pos (by omega), if_pos (by omega), rd42 hx, rweekday_eq]
        unfold skiarearef02_on.f
        simp only [Option.bind_some]
        rw [hu, if_pos hw0, rsecond_eq]
        simp only [Option.bind_some]
        rw [wrap_up hi hl]
        cases hb : (Go.bits .and .i64 (shr .i64 x.f0 (wdOf t)) 1 == 1) with
        | false => simp
        | true =>
          rw [hb, Bool.true_and, Bool.and_eq_false_iff, decide_eq_false_iff_not, decide_eq_false_iff_not] at hp
          rw [if_pos rfl]
          by_cases h1 : x.f1 ≤ secOf t
          · rw [if_pos h1, if_neg (by omega)]
          · rw [if_neg h1]) (fun k => by
        simp only [skiarearef02_In.l0]
        rw [if_neg (by omega)]) l.length 0 (k - l.length - 1) (by omega)
    rw [show k - l.length - 1 + l.length + 1 = k by omega, List.drop_zero] at key
    refine key.trans ?_
    cases l.any (onAt (wdOf t) (secOf t)) <;> rfl
end Go.Proofs.Ytmijeihhioiliaa.Pure
