/- The reference's Add and Total, told plainly, and the program's: the same sums. -/
import Derived.Test.YtamockdikeadnaaPSums
import Derived.Test.YtamockdikeadnaaPx11
import Derived.Test.YtamockdikeadnaaPx12
namespace Go.Proofs.Ytamockdikeadnaa.Px
open Go.RowKit Go.Proofs.YtamockdikeadnaaW.PrintWords
theorem more_is (n x : Int) (h : InM n) : skiarearef34_more.f n x = some (if over n x then (0, false) else (n + x, true)) := plus_is n x h
theorem total_ref (l : List S41) (hl : l.length ≤ 9223372036854775807) : Ev (fun k => skiarearef34_Total.f k l) (total l) := by
  unfold skiarearef34_Total.f total
  have : ∀ d i : Nat, i + d = l.length → ∀ n, InM n → Ev (fun k => skiarearef34_Total.l0 k l n (i : Int)) (match tot (l.drop i) n with | some n => (n, 0) | none => (0, 12)) := by
    intro d
    induction d with
    | zero =>
      intro i hi n _
      rw [List.drop_eq_nil_of_le (by omega)]
      exact Ev.step (fun k => by simp only [skiarearef34_Total.l0]; rw [if_neg (by omega)]; rfl) (Ev.now _)
    | succ d ih =>
      intro i hi n hn
      have hil : i < l.length := by omega
      rw [List.drop_eq_getElem_cons hil, tot]
      refine Ev.step (fun k => by simp only [skiarearef34_Total.l0]; rw [if_pos (by omega), if_pos (by omega), rd41 (List.getElem?_eq_getElem hil), more_is _ _ hn, Option.bind_some, wrap_up hil hl]) ?_
      by_cases ho : over n l[i].f1
      · simp only [if_pos ho, if_neg (show ¬ (false = true) by simp)]
        exact Ev.now _
      · simp only [if_neg ho, if_true]
        exact ih (i + 1) (by omega) _ (over_not ho)
  exact this l.length 0 (by omega) 0 (by unfold InM; omega)
/-- One more share, put into the sums in their order. -/
def ins (s : S41) : List S41 → Option (List S41)
  | [] => if over 0 s.f1 then none else some [⟨s.f0, s.f1⟩]
  | y :: out => if y.f0 < s.f0 then (ins s out).map (y :: ·) else if y.f0 = s.f0 then (if over y.f1 s.f1 then none else some (⟨y.f0, y.f1 + s.f1⟩ :: out)) else (if over 0 s.f1 then none else some (⟨s.f0, s.f1⟩ :: y :: out))
theorem ins_app (s : S41) : ∀ (P Q : List S41), (∀ y ∈ P, y.f0 < s.f0) → ins s (P ++ Q) = (ins s Q).map (P ++ ·)
  | [], Q, _ => by simp
  | y :: P, Q, h => by
    rw [List.cons_append, ins, if_pos (h y List.mem_cons_self), ins_app s P Q (fun z hz => h z (List.mem_cons_of_mem _ hz)), Option.map_map]
    rfl
theorem rd_app (P Q : List S41) (y : S41) : rd_T41 (P ++ y :: Q) (P.length : Int) = y := rd41 (by simp)
theorem set_app (P Q : List S41) (y z : S41) : (P ++ y :: Q).set P.length z = P ++ z :: Q := by
  rw [List.set_append_right _ _ (Nat.le_refl _), Nat.sub_self]; rfl
/-- The place is made, by moving what stands behind it. -/
theorem shift_loop (all : List S41) (P Q : List S41) (i : Nat) (res : List S41 × Int) (hl : P.length + Q.length ≤ 1000)
    (hE : ∀ h : S41, Ev (fun k => skiarearef34_Add.l2 k all (P ++ h :: Q) (i : Int) (P.length : Int) (P.length : Int)) res) :
    ∀ m : Nat, m ≤ Q.length → ∀ h : S41, Ev (fun k => skiarearef34_Add.l2 k all (P ++ Q.take m ++ h :: Q.drop m) (i : Int) (P.length : Int) ((P.length + m : Nat) : Int)) res := by
  intro m
  induction m with
  | zero => intro _ h; simpa using hE h
  | succ m ih =>
    intro hm h
    have hmq : m < Q.length := by omega
    have hq : Q.take (m + 1) = Q.take m ++ [Q[m]] := (List.take_append_getElem hmq).symm
    have hd : Q.drop m = Q[m] :: Q.drop (m + 1) := List.drop_eq_getElem_cons hmq
    have hlen : (P ++ Q.take m).length = P.length + m := by rw [List.length_append, List.length_take]; omega
    have hr : rd_T41 (P ++ Q.take (m + 1) ++ h :: Q.drop (m + 1)) ((P.length + m : Nat) : Int) = Q[m] := by
      rw [hq, ← List.append_assoc, List.append_assoc (P ++ Q.take m), List.singleton_append, ← hlen]
      exact rd_app _ _ _
    have hset : (P ++ Q.take (m + 1) ++ h :: Q.drop (m + 1)).set (P.length + (m + 1)) ⟨Q[m].f0, Q[m].f1⟩ = P ++ Q.take m ++ Q[m] :: Q.drop m := by
      have hlen2 : (P ++ Q.take (m + 1)).length = P.length + (m + 1) := by rw [List.length_append, List.length_take]; omega
      rw [← hlen2, set_app, hq, hd, ← List.append_assoc, List.append_assoc (P ++ Q.take m), List.singleton_append]
    have htot : (P ++ Q.take (m + 1) ++ h :: Q.drop (m + 1)).length = P.length + Q.length + 1 := by
      rw [List.length_append, List.length_append, List.length_take, List.length_cons, List.length_drop]; omega
    have hw : wrap64 (((P.length + (m + 1) : Nat) : Int) - 1) = ((P.length + m : Nat) : Int) := by unfold wrap64; omega
    refine Ev.step (fun k => ?_) (ih (by omega) Q[m])
    simp only [skiarearef34_Add.l2, hw, hr, Int.toNat_natCast, hset]
    rw [if_pos (by omega), if_pos (by omega), if_pos (by omega), if_pos (by omega), if_pos (by omega)]
theorem step_add (all : List S41) (i : Nat) (hi : i < all.length) (ha : all.length ≤ 200) (out : List S41) (ho : out.length ≤ 200) (s : S41) (hs : all[i]? = some s) (hb : ∀ y ∈ out, InM y.f1) (res : List S41 × Int)
    (hN : ins s out = none → res = ([], 12)) (hS : ∀ out2, ins s out = some out2 → Ev (fun k => skiarearef34_Add.l0 k all out2 ((i + 1 : Nat) : Int)) res) : Ev (fun k => skiarearef34_Add.l0 k all out (i : Int)) res := by
  have hwi : wrap64 ((i : Int) + 1) = ((i + 1 : Nat) : Int) := wrap_up hi (by omega)
  have hM0 : InM 0 := by unfold InM; omega
  -- the place is found
  have put : ∀ (P Q : List S41), out = P ++ Q → (∀ y ∈ P, y.f0 < s.f0) → ins s Q = (if over 0 s.f1 then none else some (⟨s.f0, s.f1⟩ :: Q)) → Ev (fun k => skiarearef34_Add.j3 k all out (i : Int) (P.length : Int) true) res := by
    intro P Q e hP hq
    have hl : P.length + Q.length ≤ 200 := by rw [e, List.length_append] at ho; exact ho
    have hin := ins_app s P Q hP
    rw [← e, hq] at hin
    have last : ∀ h : S41, Ev (fun k => skiarearef34_Add.l2 k all (P ++ h :: Q) (i : Int) (P.length : Int) (P.length : Int)) res := by
      intro h
      have htot : (P ++ h :: Q).length = P.length + Q.length + 1 := by rw [List.length_append, List.length_cons]; omega
      by_cases hov : over 0 s.f1
      · rw [if_pos hov] at hin
        rw [hN hin]
        refine Ev.step (fun k => ?_) (Ev.now _)
        simp only [skiarearef34_Add.l2, Option.bind_some, Int.toNat_natCast, set_app, rd_app, rd41 hs, more_is _ _ hM0, if_pos hov]
        rw [if_neg (by omega), if_pos (by omega), if_pos (by omega), if_pos (by omega), if_pos (by omega), if_neg (by simp)]
      · rw [if_neg hov] at hin
        refine Ev.step (fun k => ?_) (hS _ hin)
        simp only [skiarearef34_Add.l2, Option.bind_some, Int.toNat_natCast, set_app, rd_app, rd41 hs, more_is _ _ hM0, if_neg hov, hwi, Int.zero_add]
        rw [if_neg (by omega), if_pos (by omega), if_pos (by omega), if_pos (by omega), if_pos (by omega), if_pos trivial]
    have hsh := shift_loop all P Q i res (by omega) last Q.length (Nat.le_refl _) ⟨0, 0⟩
    rw [List.take_of_length_le (Nat.le_refl _), List.drop_of_length_le (Nat.le_refl _)] at hsh
    refine Ev.step (fun k => ?_) hsh
    simp only [skiarearef34_Add.j3, Option.bind_some, if_true]
    rw [if_pos (by omega), e]
    have : wrap64 ((((P ++ Q) ++ [(⟨0, 0⟩ : S41)]).length : Int) - 1) = ((P.length + Q.length : Nat) : Int) := by
      rw [List.length_append, List.length_append, List.length_singleton]
      unfold wrap64
      omega
    rw [this]
  have search : ∀ (Q P : List S41), out = P ++ Q → (∀ y ∈ P, y.f0 < s.f0) → Ev (fun k => skiarearef34_Add.l1 k all out (i : Int) (P.length : Int)) res := by
    intro Q
    induction Q with
    | nil =>
      intro P e hP
      have hl : out.length = P.length := by rw [e]; simp
      refine Ev.step (fun k => by simp only [skiarearef34_Add.l1]; rw [if_neg (by omega)]) ?_
      refine Ev.step (fun k => by simp only [skiarearef34_Add.j2]; rw [if_pos (by omega)]) ?_
      exact put P [] e hP (by rw [ins])
    | cons y Q ih =>
      intro P e hP
      have hl : P.length < out.length := by rw [e]; simp
      have hr : rd_T41 out (P.length : Int) = y := by rw [e]; exact rd_app P Q y
      by_cases hlt : y.f0 < s.f0
      · have := ih (P ++ [y]) (by rw [e]; simp) (fun z hz => by
          rcases List.mem_append.1 hz with hz | hz
          · exact hP z hz
          · obtain rfl : z = y := by simpa using hz
            exact hlt)
        rw [List.length_append, List.length_singleton] at this
        refine Ev.step (fun k => ?_) this
        simp only [skiarearef34_Add.l1, hr, rd41 hs]
        rw [if_pos (by omega), if_pos (by omega), if_pos (by omega), if_pos (by omega), if_pos hlt, wrap_up hl (by omega)]
      · refine Ev.step (f := fun k => skiarearef34_Add.j2 k all out (i : Int) (P.length : Int)) (fun k => ?_) ?_
        · simp only [skiarearef34_Add.l1, hr, rd41 hs]
          rw [if_pos (by omega), if_pos (by omega), if_pos (by omega), if_pos (by omega), if_neg hlt]
        refine Ev.step (f := fun k => skiarearef34_Add.j3 k all out (i : Int) (P.length : Int) (y.f0 != s.f0)) (fun k => ?_) ?_
        · simp only [skiarearef34_Add.j2, hr, rd41 hs]
          rw [if_neg (by omega), if_pos (by omega), if_pos (by omega), if_pos (by omega), if_pos (by omega)]
        by_cases heq : y.f0 = s.f0
        · have hb2 : (y.f0 != s.f0) = false := by simp [heq]
          rw [hb2]
          have hin := ins_app s P (y :: Q) hP
          rw [← e, ins, if_neg hlt, if_pos heq] at hin
          have hyM : InM y.f1 := hb y (by rw [e]; simp)
          have hset : out.set P.length (⟨y.f0, y.f1 + s.f1⟩ : S41) = P ++ ⟨y.f0, y.f1 + s.f1⟩ :: Q := by rw [e]; exact set_app P Q y _
          by_cases hov : over y.f1 s.f1
          · rw [if_pos hov] at hin
            rw [hN hin]
            refine Ev.step (fun k => ?_) (Ev.now _)
            simp only [skiarearef34_Add.j3, hr, rd41 hs, more_is _ _ hyM, if_pos hov, Option.bind_some]
            rw [if_neg (by simp), if_pos (by omega), if_pos (by omega), if_pos (by omega), if_pos (by omega), if_neg (by simp)]
          · rw [if_neg hov] at hin
            refine Ev.step (fun k => ?_) (hS _ hin)
            simp only [skiarearef34_Add.j3, hr, rd41 hs, more_is _ _ hyM, if_neg hov, Option.bind_some, Int.toNat_natCast, hset, hwi]
            rw [if_neg (by simp), if_pos (by omega), if_pos (by omega), if_pos (by omega), if_pos (by omega), if_pos trivial]
        · have hb2 : (y.f0 != s.f0) = true := by simp [heq]
          rw [hb2]
          exact put P (y :: Q) e hP (by rw [ins, if_neg hlt, if_neg heq])
  exact Ev.step (fun k => by simp only [skiarearef34_Add.l0]; rw [if_pos (by omega)]; rfl) (search out [] rfl (fun y hy => by cases hy))
/-- Sums in their order, as the map M tells them. -/
structure Told (M : List (Int × Int)) (out : List S41) : Prop where
  nd : (M.map (·.1)).Nodup
  inM : ∀ k, InM (mapGet M k)
  strict : out.Pairwise (fun x y => x.f0 < y.f0)
  get : ∀ y ∈ out, mapGet M y.f0 = y.f1
  all : ∀ k, mapGet M k ≠ 0 → ∃ y ∈ out, y.f0 = k
theorem ins_told (s : S41) : ∀ (out : List S41) (g : Int → Int), out.Pairwise (fun x y => x.f0 < y.f0) → (∀ y ∈ out, g y.f0 = y.f1) → (∀ k, g k ≠ 0 → (∃ y ∈ out, y.f0 = k)) →
    if over (g s.f0) s.f1 then ins s out = none else ∃ out2, ins s out = some out2 ∧ out2.length ≤ out.length + 1 ∧ out2.Pairwise (fun x y => x.f0 < y.f0) ∧ (∀ y ∈ out2, (if y.f0 = s.f0 then g s.f0 + s.f1 else g y.f0) = y.f1) ∧ (∀ y ∈ out, ∃ z ∈ out2, z.f0 = y.f0) ∧ (∃ z ∈ out2, z.f0 = s.f0) ∧ (∀ z ∈ out2, z.f0 = s.f0 ∨ ∃ y ∈ out, y.f0 = z.f0)
  | [], g, _, _, ha => by
    have h0 : g s.f0 = 0 := by
      by_cases h : g s.f0 = 0
      · exact h
      · obtain ⟨y, hy, _⟩ := ha _ h
        cases hy
    rw [h0, ins]
    by_cases ho : over 0 s.f1
    · rw [if_pos ho, if_pos ho]
    · rw [if_neg ho, if_neg ho]
      refine ⟨_, rfl, by simp, List.pairwise_singleton _ _, fun y hy => ?_, fun y hy => (by cases hy), ⟨_, List.mem_singleton_self _, rfl⟩, fun z hz => ?_⟩
      · obtain rfl : y = ⟨s.f0, s.f1⟩ := by simpa using hy
        rw [if_pos rfl]
        exact Int.zero_add _
      · obtain rfl : z = ⟨s.f0, s.f1⟩ := by simpa using hz
        exact .inl rfl
  | y :: out, g, hs, hg, ha => by
    rw [List.pairwise_cons] at hs
    rw [ins]
    by_cases hlt : y.f0 < s.f0
    · rw [if_pos hlt]
      have ih := ins_told s out (fun k => if k = y.f0 then 0 else g k) hs.2 (fun z hz => by
        have := hs.1 z hz
        rw [if_neg (by omega)]
        exact hg z (List.mem_cons_of_mem _ hz)) (fun k hk => by
        by_cases e : k = y.f0
        · rw [if_pos e] at hk; exact absurd rfl hk
        · rw [if_neg e] at hk
          obtain ⟨z, hz, hzk⟩ := ha k hk
          rcases List.mem_cons.1 hz with rfl | hz
          · exact absurd hzk.symm e
          · exact ⟨z, hz, hzk⟩)
      have e1 : (if s.f0 = y.f0 then 0 else g s.f0) = g s.f0 := if_neg (by omega)
      simp only [e1] at ih
      by_cases ho : over (g s.f0) s.f1
      · rw [if_pos ho] at ih ⊢
        rw [ih]
        rfl
      · rw [if_neg ho] at ih ⊢
        obtain ⟨out2, h1, h2, h3, h4, h5, h6, h7⟩ := ih
        refine ⟨y :: out2, by rw [h1]; rfl, by simp; omega, ?_, ?_, ?_, ?_, ?_⟩
        · rw [List.pairwise_cons]
          refine ⟨fun z hz => ?_, h3⟩
          rcases h7 z hz with e | ⟨u, hu, e⟩
          · omega
          · have := hs.1 u hu
            omega
        · intro z hz
          rcases List.mem_cons.1 hz with rfl | hz
          · rw [if_neg (by omega)]
            exact hg z List.mem_cons_self
          · have h4z := h4 z hz
            by_cases e : z.f0 = s.f0
            · rw [if_pos e] at h4z ⊢; exact h4z
            · rw [if_neg e] at h4z ⊢
              rw [if_neg] at h4z
              · exact h4z
              · rcases h7 z hz with e2 | ⟨u, hu, e2⟩
                · exact absurd e2 e
                · have := hs.1 u hu
                  omega
        · intro z hz
          rcases List.mem_cons.1 hz with rfl | hz
          · exact ⟨z, List.mem_cons_self, rfl⟩
          · obtain ⟨u, hu, e⟩ := h5 z hz
            exact ⟨u, List.mem_cons_of_mem _ hu, e⟩
        · obtain ⟨u, hu, e⟩ := h6
          exact ⟨u, List.mem_cons_of_mem _ hu, e⟩
        · intro z hz
          rcases List.mem_cons.1 hz with rfl | hz
          · exact .inr ⟨z, List.mem_cons_self, rfl⟩
          · rcases h7 z hz with e | ⟨u, hu, e⟩
            · exact .inl e
            · exact .inr ⟨u, List.mem_cons_of_mem _ hu, e⟩
    · rw [if_neg hlt]
      by_cases heq : y.f0 = s.f0
      · rw [if_pos heq]
        have hgy : g s.f0 = y.f1 := by rw [← heq]; exact hg y List.mem_cons_self
        rw [hgy]
        by_cases ho : over y.f1 s.f1
        · rw [if_pos ho, if_pos ho]
        · rw [if_neg ho, if_neg ho]
          refine ⟨_, rfl, by simp, ?_, ?_, ?_, ⟨_, List.mem_cons_self, heq⟩, ?_⟩
          · rw [List.pairwise_cons]
            exact ⟨fun z hz => hs.1 z hz, hs.2⟩
          · intro z hz
            rcases List.mem_cons.1 hz with rfl | hz
            · rw [if_pos heq]
            · have := hs.1 z hz
              rw [if_neg (by omega)]
              exact hg z (List.mem_cons_of_mem _ hz)
          · intro z hz
            rcases List.mem_cons.1 hz with rfl | hz
            · exact ⟨_, List.mem_cons_self, rfl⟩
            · exact ⟨z, List.mem_cons_of_mem _ hz, rfl⟩
          · intro z hz
            rcases List.mem_cons.1 hz with rfl | hz
            · exact .inl heq
            · exact .inr ⟨z, List.mem_cons_of_mem _ hz, rfl⟩
      · rw [if_neg heq]
        have h0 : g s.f0 = 0 := by
          by_cases h : g s.f0 = 0
          · exact h
          · obtain ⟨z, hz, e⟩ := ha _ h
            rcases List.mem_cons.1 hz with rfl | hz
            · exact absurd e heq
            · have := hs.1 z hz
              omega
        rw [h0]
        by_cases ho : over 0 s.f1
        · rw [if_pos ho, if_pos ho]
        · rw [if_neg ho, if_neg ho]
          refine ⟨_, rfl, by simp, ?_, ?_, fun z hz => ⟨z, List.mem_cons_of_mem _ hz, rfl⟩, ⟨_, List.mem_cons_self, rfl⟩, ?_⟩
          · rw [List.pairwise_cons, List.pairwise_cons]
            refine ⟨fun z hz => ?_, hs⟩
            show s.f0 < z.f0
            rcases List.mem_cons.1 hz with rfl | hz
            · omega
            · have := hs.1 z hz
              omega
          · intro z hz
            rcases List.mem_cons.1 hz with rfl | hz
            · rw [if_pos rfl]
              exact Int.zero_add _
            · rw [if_neg]
              · exact hg z hz
              · rcases List.mem_cons.1 hz with rfl | hz
                · exact heq
                · have := hs.1 z hz
                  omega
          · intro z hz
            rcases List.mem_cons.1 hz with rfl | hz
            · exact .inl rfl
            · exact .inr ⟨z, hz, rfl⟩
theorem few_told {M : List (Int × Int)} {out : List S41} (h : Told M out) : out.filter (fun y => decide (y.f1 ≠ 0)) = split_Add.srt (split_Add.few M) := by
  refine order_unique (T := fun x y : S41 => x.f0 < y.f0) (fun x y h1 h2 => by omega) _ _ ?_ (h.strict.sublist List.filter_sublist) (srt_strict M h.nd)
  refine List.Perm.trans ?_ (split_Add.srt_spec _).1.symm
  have nd : (out.filter (fun y => decide (y.f1 ≠ 0))).Nodup := (h.strict.sublist List.filter_sublist).imp fun hlt e => by rw [e] at hlt; omega
  rw [List.perm_ext_iff_of_nodup nd (few_nodup M h.nd)]
  intro x
  rw [mem_few M h.nd, List.mem_filter]
  constructor
  · rintro ⟨h1, h2⟩
    exact ⟨by simpa using h2, h.get x h1⟩
  · rintro ⟨h1, h2⟩
    obtain ⟨y, hy, e⟩ := h.all x.f0 (by rw [h2]; exact h1)
    have := h.get y hy
    rw [e, h2] at this
    have hxy : x = y := by
      cases x; cases y
      simp only at e this
      simp [e, this]
    exact ⟨by rw [hxy]; exact hy, by simpa using h1⟩
theorem few_loop (out : List S41) (hl : out.length ≤ 1000) : Ev (fun k => skiarearef34_Add.l3 k out [] 0) (out.filter (fun y => decide (y.f1 ≠ 0)), 0) := by
  have : ∀ d i : Nat, i + d = out.length → Ev (fun k => skiarearef34_Add.l3 k out ((out.take i).filter (fun y => decide (y.f1 ≠ 0))) (i : Int)) (out.filter (fun y => decide (y.f1 ≠ 0)), 0) := by
    intro d
    induction d with
    | zero =>
      intro i hi
      rw [List.take_of_length_le (by omega)]
      exact Ev.step (fun k => by simp only [skiarearef34_Add.l3]; rw [if_neg (by omega)]) (Ev.now _)
    | succ d ih =>
      intro i hi
      have hil : i < out.length := by omega
      have hx := List.getElem?_eq_getElem hil
      have ih' := ih (i + 1) (by omega)
      rw [(List.take_append_getElem hil).symm, List.filter_append] at ih'
      have hlen : ((out.take i).filter (fun y => decide (y.f1 ≠ 0))).length < 8796093022208 := by
        have := List.length_filter_le (fun y : S41 => decide (y.f1 ≠ 0)) (out.take i)
        rw [List.length_take] at this
        omega
      by_cases hz : out[i].f1 = 0
      · rw [List.filter_cons_of_neg (by simpa using hz), List.filter_nil, List.append_nil] at ih'
        refine Ev.step (fun k => ?_) ih'
        simp only [skiarearef34_Add.l3, rd41 hx]
        rw [if_pos (by omega), if_pos (by omega), if_pos hz, wrap_up hil (by omega)]
      · rw [List.filter_cons_of_pos (by simpa using hz), List.filter_nil] at ih'
        refine Ev.step (fun k => ?_) ih'
        simp only [skiarearef34_Add.l3, rd41 hx]
        rw [if_pos (by omega), if_pos (by omega), if_neg hz, if_pos hlen, wrap_up hil (by omega)]
  have h0 := this out.length 0 (by omega)
  rw [List.take_zero] at h0
  exact h0
def answer (r : Option (List (Int × Int))) : List S41 × Int := match r with | none => ([], 12) | some M2 => (split_Add.srt (split_Add.few M2), 0)
theorem add_loop (all : List S41) (ha : all.length ≤ 200) : ∀ d i : Nat, i + d = all.length → ∀ (M : List (Int × Int)) (out : List S41), Told M out → out.length ≤ i →
    ∃ r, split_Add.sums (all.drop i) M = some r ∧ Ev (fun k => skiarearef34_Add.l0 k all out (i : Int)) (answer r) := by
  intro d
  induction d with
  | zero =>
    intro i hi M out hT ho
    rw [List.drop_eq_nil_of_le (by omega)]
    refine ⟨some M, rfl, ?_⟩
    show Ev _ (split_Add.srt (split_Add.few M), 0)
    rw [← few_told hT]
    exact Ev.step (fun k => by simp only [skiarearef34_Add.l0]; rw [if_neg (by omega)]) (few_loop out (by omega))
  | succ d ih =>
    intro i hi M out hT ho
    have hil : i < all.length := by omega
    have hx := List.getElem?_eq_getElem hil
    rw [List.drop_eq_getElem_cons hil, split_Add.sums]
    generalize all[i] = s at hx
    rw [plus_is _ _ (hT.inM s.f0), Option.bind_some]
    have hin := ins_told s out (mapGet M) hT.strict hT.get hT.all
    have hb : ∀ y ∈ out, InM y.f1 := fun y hy => by rw [← hT.get y hy]; exact hT.inM _
    by_cases hov : over (mapGet M s.f0) s.f1
    · rw [if_pos hov] at hin ⊢
      simp only [Bool.false_eq_true, if_false]
      refine ⟨none, rfl, step_add all i hil ha out (by omega) s hx hb _ (fun _ => rfl) (fun out2 e => ?_)⟩
      rw [hin] at e
      cases e
    · rw [if_neg hov] at hin ⊢
      simp only [if_true]
      obtain ⟨out2, h1, h2, h3, h4, h5, h6, h7⟩ := hin
      have hT2 : Told (mapPut M s.f0 (mapGet M s.f0 + s.f1)) out2 := by
        refine ⟨mapNd_put _ _ _ hT.nd, fun k => ?_, h3, fun y hy => ?_, fun k hk => ?_⟩
        · by_cases e : k = s.f0
          · rw [e, mapGet_put_same]; exact over_not hov
          · rw [mapGet_put_other _ _ _ _ e]; exact hT.inM k
        · have := h4 y hy
          by_cases e : y.f0 = s.f0
          · rw [if_pos e] at this
            rw [e, mapGet_put_same]
            exact this
          · rw [if_neg e] at this
            rw [mapGet_put_other _ _ _ _ e]
            exact this
        · by_cases e : k = s.f0
          · rw [e]; exact h6
          · rw [mapGet_put_other _ _ _ _ e] at hk
            obtain ⟨y, hy, ey⟩ := hT.all k hk
            obtain ⟨z, hz, ez⟩ := h5 y hy
            exact ⟨z, hz, by omega⟩
      obtain ⟨r, hr1, hr2⟩ := ih (i + 1) (by omega) _ out2 hT2 (by omega)
      refine ⟨r, hr1, step_add all i hil ha out (by omega) s hx hb _ (fun e => ?_) (fun o e => ?_)⟩
      · rw [h1] at e
        cases e
      · rw [h1] at e
        obtain rfl := Option.some.inj e
        exact hr2
theorem add_ref (a b : List S41) (h : a.length + b.length ≤ 200) (hw : ∀ s ∈ a ++ b, (Lit.int .i64 s.f0).wf = true) : ∃ r, split_Add.f a b = some r ∧ r.1.length ≤ 200 ∧ Ev (fun k => skiarearef34_Add.f k a b) r := by
  have hT : Told [] [] := ⟨List.nodup_nil, fun k => by show InM 0; unfold InM; omega, List.Pairwise.nil, fun y hy => (by cases hy), fun k hk => absurd rfl hk⟩
  obtain ⟨r, h1, h2⟩ := add_loop (a ++ b) (by rw [List.length_append]; exact h) (a ++ b).length 0 (by omega) [] [] hT (Nat.zero_le _)
  rw [List.drop_zero] at h1
  have hf : Ev (fun k => skiarearef34_Add.f k a b) (answer r) := by
    unfold skiarearef34_Add.f
    simp only [List.nil_append, Option.bind_some, if_pos (show ([] : List S41).length + a.length < 8796093022208 by simp; omega), if_pos (show a.length + b.length < 8796093022208 by omega)]
    exact h2
  unfold split_Add.f
  rw [if_pos ⟨by omega, List.all_eq_true.2 hw⟩, h1]
  cases r with
  | none => exact ⟨_, rfl, by simp, hf⟩
  | some M2 =>
    refine ⟨_, rfl, ?_, hf⟩
    have h5 := split_Add.sums_len _ _ _ h1
    have h6 := few_len M2
    show (split_Add.srt (split_Add.few M2)).length ≤ 200
    rw [(split_Add.srt_spec _).1.length_eq]
    rw [List.length_append] at h5
    simp at h5
    omega
end Go.Proofs.Ytamockdikeadnaa.Px
