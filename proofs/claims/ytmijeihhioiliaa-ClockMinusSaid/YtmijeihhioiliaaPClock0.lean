/- The clock's small functions, told plainly: time, day, second, weekday; the chapter's examples hold. -/
import Derived.Test.YtmijeihhioiliaaPx10
import Derived.Test.YtmijeihhioiliaaPx11
namespace Go.Proofs.Ytmijeihhioiliaa.Pure
open Go.RowKit Go.Proofs.Ytmijeihhioiliaa.Px Go.Proofs.YtmijeihhioiliaaW

theorem alive_100 : skiarealaw02_alive.f 100 = some true := by decide +kernel
theorem alive_more {k : Nat} (h : 100 ≤ k) : skiarealaw02_alive.f k = some true := PrintWords.at_rounds skiarealaw02_alive.mono h alive_100
/-- Is it a time? -/
def isT (t : Int) : Bool := decide (0 ≤ t) && decide (t ≤ 20000000)
def dayOf (t : Int) : Int := if isT t then t / 86400 else -1
def secOf (t : Int) : Int := if isT t then t % 86400 else -1
def wdOf (t : Int) : Int := if isT t then t / 86400 % 7 else -1
theorem isTime_eq (t : Int) : clock_isTime.f t = some (isT t) := by
  unfold clock_isTime.f isT
  by_cases h : 0 ≤ t <;> simp [h]
theorem rtime_eq (t : Int) : skiarearef02_time.f t = some (isT t) := by
  unfold skiarearef02_time.f isT
  by_cases h : 0 ≤ t <;> simp [h]
theorem isT_iff (t : Int) : isT t = true ↔ 0 ≤ t ∧ t ≤ 20000000 := by simp [isT]
theorem tdiv_day {t : Int} (h : 0 ≤ t) : Int.tdiv t 86400 = t / 86400 := Int.tdiv_eq_ediv_of_nonneg h
theorem tmod_day {t : Int} (h : 0 ≤ t) : Int.tmod t 86400 = t % 86400 := Int.tmod_eq_emod_of_nonneg h
theorem wrap_id {x : Int} (h0 : -9223372036854775808 ≤ x) (h1 : x ≤ 9223372036854775807) : wrap64 x = x := by unfold wrap64; omega
theorem wrap_day {t : Int} (h : 0 ≤ t) (h1 : t ≤ 20000000) : wrap64 (t / 86400) = t / 86400 := wrap_id (by omega) (by omega)
theorem day_eq (t : Int) : clock_Day.f t = some (dayOf t) := by
  unfold clock_Day.f dayOf
  rw [isTime_eq]
  simp only [Option.bind_some]
  by_cases h : isT t = true
  · obtain ⟨h0, h1⟩ := (isT_iff t).1 h
    rw [if_pos h, if_pos h, tdiv_day h0, wrap_day h0 h1]
  · rw [if_neg h, if_neg h]
theorem rday_eq (t : Int) : skiarearef02_Day.f t = some (dayOf t) := by
  rw [← day_eq]
  unfold skiarearef02_Day.f clock_Day.f
  rw [isTime_eq, rtime_eq]
theorem second_eq (t : Int) : clock_Second.f t = some (secOf t) := by
  unfold clock_Second.f secOf
  rw [isTime_eq]
  simp only [Option.bind_some]
  by_cases h : isT t = true
  · obtain ⟨h0, h1⟩ := (isT_iff t).1 h
    rw [if_pos h, if_pos h, tmod_day h0]
  · rw [if_neg h, if_neg h]
theorem rsecond_eq (t : Int) : skiarearef02_Second.f t = some (secOf t) := by
  rw [← second_eq]
  unfold skiarearef02_Second.f clock_Second.f
  rw [isTime_eq, rtime_eq]
theorem weekday_eq (t : Int) : clock_Weekday.f t = some (wdOf t) := by
  unfold clock_Weekday.f wdOf
  rw [isTime_eq]
  simp only [Option.bind_some]
  by_cases h : isT t = true
  · obtain ⟨h0, h1⟩ := (isT_iff t).1 h
    rw [if_pos h, if_pos h, tdiv_day h0, wrap_day h0 h1, Int.tmod_eq_emod_of_nonneg (by omega)]
  · rw [if_neg h, if_neg h]
theorem rweekday_eq (t : Int) : skiarearef02_Weekday.f t = some (wdOf t) := by
  rw [← weekday_eq]
  unfold skiarearef02_Weekday.f clock_Weekday.f
  rw [isTime_eq, rtime_eq]
end Go.Proofs.Ytmijeihhioiliaa.Pure
