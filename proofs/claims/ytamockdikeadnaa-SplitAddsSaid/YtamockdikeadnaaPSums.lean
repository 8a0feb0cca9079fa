/- Total and Add, told plainly. -/
import Derived.Test.YtamockdikeadnaaPNum
import Derived.Test.YtamockdikeadnaaPx9
import Derived.Test.YtamockdikeadnaaPx10
namespace Go.Proofs.Ytamockdikeadnaa.Px
open Go.RowKit Go.Proofs.YtamockdikeadnaaW.PrintWords
theorem rd41 {xs : List S41} {i : Nat} {x : S41} (h : xs[i]? = some x) : rd_T41 xs (i : Int) = x := by
  unfold rd_T41
  rw [Int.toNat_natCast, List.getD_eq_getElem?_getD, h, Option.getD_some]
/-- The range of a sum. -/
def InM (n : Int) : Prop := -1099511627776 ≤ n ∧ n ≤ 1099511627776
def over (n x : Int) : Prop := x > 1099511627776 - n ∨ x < -1099511627776 - n
instance (n x : Int) : Decidable (over n x) := by unfold over; infer_instance
theorem over_not {n x : Int} (h : ¬ over n x) : InM (n + x) := by unfold over at h; unfold InM; omega
theorem wrap_near (z : Int) (h0 : -9223372036854775808 ≤ z) (h1 : z < 9223372036854775808) : wrap64 z = z := by unfold wrap64; omega
theorem plus_is (n x : Int) (h : InM n) : split_plus.f n x = some (if over n x then (0, false) else (n + x, true)) := by
  unfold InM at h
  unfold split_plus.f
  rw [wrap_near (1099511627776 - n) (by omega) (by omega), wrap_near (-1099511627776 - n) (by omega) (by omega)]
  by_cases h1 : x > 1099511627776 - n
  · rw [if_pos h1, if_pos (.inl h1)]
  by_cases h2 : x < -1099511627776 - n
  · rw [if_neg h1, if_pos h2, if_pos (.inr h2)]
  · have : ¬ over n x := fun hh => hh.elim h1 h2
    rw [if_neg h1, if_neg h2, if_neg this, wrap_near _ (by omega) (by omega)]
/-- The sum of the amounts, if no sum on the way is out of range. -/
def tot : List S41 → Int → Option Int
  | [], n => some n
  | s :: l, n => if over n s.f1 then none else tot l (n + s.f1)
def amounts (l : List S41) : Int := (l.map (·.f1)).sum
theorem tot_sum : ∀ (l : List S41) (n m : Int), InM n → tot l n = some m → InM m ∧ m = n + amounts l
  | [], n, m, h, e => by
    obtain rfl := Option.some.inj e
    exact ⟨h, by simp [amounts]⟩
  | s :: l, n, m, h, e => by
    rw [tot] at e
    by_cases ho : over n s.f1
    · rw [if_pos ho] at e; cases e
    · rw [if_neg ho] at e
      obtain ⟨h1, h2⟩ := tot_sum l _ m (over_not ho) e
      refine ⟨h1, ?_⟩
      unfold amounts at h2 ⊢
      rw [List.map_cons, List.sum_cons]
      omega
def total (l : List S41) : Int × Int := match tot l 0 with | some n => (n, 0) | none => (0, 12)
theorem total_is (l : List S41) (hl : l.length ≤ 9223372036854775807) : Ev (fun k => split_Total.f k l) (total l) := by
  unfold split_Total.f total
  have : ∀ d i : Nat, i + d = l.length → ∀ n, InM n → Ev (fun k => split_Total.l0 k n l (l.length : Int) (i : Int)) (match tot (l.drop i) n with | some n => (n, 0) | none => (0, 12)) := by
    intro d
    induction d with
    | zero =>
      intro i hi n _
      rw [List.drop_eq_nil_of_le (by omega)]
      exact Ev.step (fun k => by simp only [split_Total.l0]; rw [if_neg (by omega)]; rfl) (Ev.now _)
    | succ d ih =>
      intro i hi n hn
      have hil : i < l.length := by omega
      rw [List.drop_eq_getElem_cons hil, tot]
      refine Ev.step (fun k => by simp only [split_Total.l0]; rw [if_pos (by omega), if_pos (by omega), if_pos (by omega), rd41 (List.getElem?_eq_getElem hil), plus_is _ _ hn, Option.bind_some, wrap_up hil hl]) ?_
      by_cases ho : over n l[i].f1
      · simp only [if_pos ho, if_neg (show ¬ (false = true) by simp)]
        exact Ev.now _
      · simp only [if_neg ho, if_true]
        exact ih (i + 1) (by omega) _ (over_not ho)
  exact this l.length 0 (by omega) 0 (by unfold InM; omega)
theorem samesh_self (l : List S41) (hl : l.length ≤ 9223372036854775807) : Ev (fun k => skiarearef34_SameShares.f k l l) true := by
  unfold skiarearef34_SameShares.f
  simp only [if_true]
  have : ∀ d i : Nat, i + d = l.length → Ev (fun k => skiarearef34_SameShares.l0 k l l (i : Int)) true := by
    intro d
    induction d with
    | zero => intro i hi; exact Ev.step (fun k => by simp only [skiarearef34_SameShares.l0]; rw [if_neg (by omega)]) (Ev.now _)
    | succ d ih =>
      intro i hi
      refine Ev.step (fun k => ?_) (ih (i + 1) (by omega))
      simp only [skiarearef34_SameShares.l0]
      rw [if_pos (by omega), if_pos (by omega), if_pos (by omega), if_neg (by simp), wrap_up (show i < l.length by omega) hl]
  exact this l.length 0 (by omega)
/-- What a list gives to the operator k. -/
def given (k : Int) (l : List S41) : Int := ((l.filter (fun s => s.f0 == k)).map (·.f1)).sum
theorem given_cons (k : Int) (s : S41) (l : List S41) : given k (s :: l) = (if s.f0 = k then s.f1 else 0) + given k l := by
  unfold given
  by_cases h : s.f0 = k
  · rw [if_pos h, List.filter_cons_of_pos (by simpa using h), List.map_cons, List.sum_cons]
  · rw [if_neg h, List.filter_cons_of_neg (by simpa using h), Int.zero_add]
theorem given_comm (k : Int) (a b : List S41) : given k (a ++ b) = given k (b ++ a) := by
  unfold given
  rw [List.filter_append, List.map_append, List.sum_append, List.filter_append, List.map_append, List.sum_append, Int.add_comm]
theorem mapGet_none {M : List (Int × Int)} {k : Int} (h : ¬ mapHas M k = true) : mapGet M k = 0 := by
  unfold mapGet
  unfold mapHas at h
  rw [List.any_eq_true] at h
  have : M.find? (fun p => p.1 == k) = none := by
    rw [List.find?_eq_none]
    intro p hp hk
    exact h ⟨p, hp, hk⟩
  rw [this]
theorem mapGet_cons (p : Int × Int) (M : List (Int × Int)) (k : Int) : mapGet (p :: M) k = if p.1 = k then p.2 else mapGet M k := by
  unfold mapGet
  by_cases h : p.1 = k
  · rw [if_pos h, List.find?_cons_of_pos (by simpa using h)]
  · rw [if_neg h, List.find?_cons_of_neg (by simpa using h)]
theorem get_of_mem : ∀ (M : List (Int × Int)), (M.map (·.1)).Nodup → ∀ p ∈ M, mapGet M p.1 = p.2
  | [], _, p, h => by cases h
  | q :: M, hn, p, h => by
    rw [List.map_cons, List.nodup_cons] at hn
    rw [mapGet_cons]
    rcases List.mem_cons.1 h with rfl | h
    · rw [if_pos rfl]
    · rw [if_neg (fun e : q.1 = p.1 => hn.1 (by rw [e]; exact List.mem_map_of_mem h))]
      exact get_of_mem M hn.2 p h
theorem mem_of_get (M : List (Int × Int)) (k : Int) (h : mapGet M k ≠ 0) : (k, mapGet M k) ∈ M := by
  unfold mapGet at h ⊢
  cases hf : M.find? (fun p => p.1 == k) with
  | none => rw [hf] at h; exact absurd rfl h
  | some p =>
    have h1 := List.mem_of_find?_eq_some hf
    have h2 := List.find?_some hf
    obtain rfl : p.1 = k := by simpa using h2
    exact h1
theorem put_sum (M : List (Int × Int)) (k v : Int) (hn : (M.map (·.1)).Nodup) : ((mapPut M k v).map (·.2)).sum = (M.map (·.2)).sum - mapGet M k + v := by
  unfold mapPut
  by_cases h : mapHas M k = true
  · rw [if_pos h]
    have : ∀ M : List (Int × Int), (M.map (·.1)).Nodup → mapHas M k = true → ((M.map (fun p => if p.1 == k then (k, v) else p)).map (·.2)).sum = (M.map (·.2)).sum - mapGet M k + v := by
      intro M
      induction M with
      | nil => intro _ h; simp [mapHas] at h
      | cons p M ih =>
        intro hn h
        rw [List.map_cons, List.nodup_cons] at hn
        rw [mapGet_cons]
        by_cases hp : p.1 = k
        · have hM : M.map (fun p => if p.1 = k then (k, v) else p) = M := by
            have : M.map (fun p => if p.1 = k then (k, v) else p) = M.map id := by
              refine List.map_congr_left fun q hq => ?_
              have : ¬ q.1 = k := fun e => hn.1 (by rw [hp, ← e]; exact List.mem_map_of_mem hq)
              rw [if_neg this]; rfl
            rw [this, List.map_id]
          simp only [List.map_cons, List.sum_cons, if_pos hp, beq_iff_eq, hM]
          omega
        · have h' : mapHas M k = true := by
            unfold mapHas at h ⊢
            simpa [hp] using h
          have := ih hn.2 h'
          simp only [List.map_cons, List.sum_cons, if_neg hp, beq_iff_eq] at this ⊢
          omega
    exact this M hn h
  · rw [if_neg h, mapGet_none h]
    simp
theorem sums_is : ∀ (l : List S41) (M : List (Int × Int)), (M.map (·.1)).Nodup → (∀ k, InM (mapGet M k)) → split_Add.sums l M = some none ∨ ∃ M2, split_Add.sums l M = some (some M2) ∧ (M2.map (·.1)).Nodup ∧ (∀ k, InM (mapGet M2 k)) ∧ (∀ k, mapGet M2 k = mapGet M k + given k l) ∧ (M2.map (·.2)).sum = (M.map (·.2)).sum + amounts l
  | [], M, hn, hb => .inr ⟨M, rfl, hn, hb, fun k => by simp [given], by simp [amounts]⟩
  | s :: l, M, hn, hb => by
    rw [split_Add.sums, plus_is _ _ (hb s.f0), Option.bind_some]
    by_cases ho : over (mapGet M s.f0) s.f1
    · rw [if_pos ho]
      exact .inl rfl
    · rw [if_neg ho]
      simp only [if_true]
      have hb' : ∀ k, InM (mapGet (mapPut M s.f0 (mapGet M s.f0 + s.f1)) k) := by
        intro k
        by_cases e : k = s.f0
        · rw [e, mapGet_put_same]; exact over_not ho
        · rw [mapGet_put_other _ _ _ _ e]; exact hb k
      rcases sums_is l (mapPut M s.f0 (mapGet M s.f0 + s.f1)) (mapNd_put _ _ _ hn) hb' with h | ⟨M2, h1, h2, h3, h4, h5⟩
      · exact .inl h
      · refine .inr ⟨M2, h1, h2, h3, fun k => ?_, ?_⟩
        · rw [h4 k, given_cons]
          by_cases e : k = s.f0
          · rw [e, mapGet_put_same, if_pos rfl]; omega
          · rw [mapGet_put_other _ _ _ _ e, if_neg (Ne.symm e)]; omega
        · rw [h5, put_sum _ _ _ hn]
          unfold amounts
          rw [List.map_cons, List.sum_cons]
          omega
theorem mem_few (M : List (Int × Int)) (hn : (M.map (·.1)).Nodup) (x : S41) : x ∈ split_Add.few M ↔ x.f1 ≠ 0 ∧ mapGet M x.f0 = x.f1 := by
  unfold split_Add.few
  rw [List.mem_map]
  constructor
  · rintro ⟨p, hp, rfl⟩
    rw [List.mem_filter] at hp
    exact ⟨by simpa using hp.2, get_of_mem M hn p hp.1⟩
  · rintro ⟨h1, h2⟩
    refine ⟨(x.f0, x.f1), List.mem_filter.2 ⟨?_, by simpa using h1⟩, rfl⟩
    have := mem_of_get M x.f0 (by rw [h2]; exact h1)
    rwa [h2] at this
theorem few_len (M : List (Int × Int)) : (split_Add.few M).length ≤ M.length := by
  unfold split_Add.few
  rw [List.length_map]
  exact List.length_filter_le _ _
theorem few_sum (M : List (Int × Int)) : amounts (split_Add.few M) = (M.map (·.2)).sum := by
  unfold amounts split_Add.few
  induction M with
  | nil => rfl
  | cons p M ih =>
    by_cases h : p.2 = 0
    · rw [List.filter_cons_of_neg (by simpa using h), ih, List.map_cons, List.sum_cons, h, Int.zero_add]
    · rw [List.filter_cons_of_pos (by simpa using h), List.map_cons, List.map_cons, List.map_cons, List.sum_cons, List.sum_cons, ih]
theorem amounts_perm {a b : List S41} (h : a.Perm b) : amounts a = amounts b := perm_sum (h.map _)
theorem few_nodup (M : List (Int × Int)) (h : (M.map (·.1)).Nodup) : (split_Add.few M).Nodup := by
  have := split_Add.few_nd M h
  unfold List.Nodup at this ⊢
  rw [List.pairwise_map] at this
  exact this.imp fun hne e => hne (by rw [e])
theorem srt_strict (M : List (Int × Int)) (h : (M.map (·.1)).Nodup) : (split_Add.srt (split_Add.few M)).Pairwise (fun x y => x.f0 < y.f0) := by
  obtain ⟨h1, h2⟩ := split_Add.srt_spec (split_Add.few M)
  exact split_Add.strict _ h2 ((h1.map _).nodup_iff.2 (split_Add.few_nd M h))
theorem srt_eq (M M' : List (Int × Int)) (h : (M.map (·.1)).Nodup) (h' : (M'.map (·.1)).Nodup) (e : ∀ k, mapGet M k = mapGet M' k) : split_Add.srt (split_Add.few M) = split_Add.srt (split_Add.few M') := by
  refine order_unique (T := fun x y : S41 => x.f0 < y.f0) (fun x y h1 h2 => by omega) _ _ ?_ (srt_strict M h) (srt_strict M' h')
  refine (split_Add.srt_spec _).1.trans (List.Perm.trans ?_ (split_Add.srt_spec _).1.symm)
  rw [List.perm_ext_iff_of_nodup (few_nodup M h) (few_nodup M' h')]
  intro x
  rw [mem_few M h, mem_few M' h', e]
/-- What Add answers: the error, or the sums of all operators that have any, in their order. -/
inductive Adds (l : List S41) : List S41 × Int → Prop
  | over : Adds l ([], 12)
  | sums (M : List (Int × Int)) (x : List S41) : (M.map (·.1)).Nodup → (∀ k, InM (mapGet M k)) → (∀ k, mapGet M k = given k l) → amounts x = amounts l → x.length ≤ l.length → x = split_Add.srt (split_Add.few M) → Adds l (x, 0)
theorem add_is (a b : List S41) (h : a.length + b.length ≤ 1000) (hw : ∀ s ∈ a ++ b, (Lit.int .i64 s.f0).wf = true) : ∃ r, split_Add.f a b = some r ∧ Adds (a ++ b) r := by
  unfold split_Add.f
  rw [if_pos ⟨h, List.all_eq_true.2 hw⟩]
  rcases sums_is (a ++ b) [] List.nodup_nil (fun k => by show InM 0; unfold InM; omega) with e | ⟨M, e, h1, h2, h3, h4⟩
  · rw [e]
    exact ⟨_, rfl, .over⟩
  · rw [e]
    refine ⟨_, rfl, .sums M _ h1 h2 (fun k => by rw [h3]; show 0 + _ = _; omega) ?_ ?_ rfl⟩
    · rw [amounts_perm (split_Add.srt_spec _).1, few_sum, h4]
      simp
    · have h5 := split_Add.sums_len _ _ _ e
      rw [(split_Add.srt_spec _).1.length_eq]
      exact Nat.le_trans (few_len M) (by simpa using h5)
end Go.Proofs.Ytamockdikeadnaa.Px
