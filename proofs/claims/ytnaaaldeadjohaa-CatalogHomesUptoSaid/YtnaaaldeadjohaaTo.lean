import Derived.Test.YtnaaaldeadjohaaTn
set_option linter.unusedVariables false
set_option linter.unusedSimpArgs false
namespace Go.Proofs.Ytnaaaldeadjohaa.Cat
open Go.RowKit Go.Shelf Go.Proofs Go.Proofs.YtnaaaldeadjohaaW.PrintWords Go.Proofs.Ytnaaaldeadjohaa.PCatalogLies
/-! ### What Check comes to, case by case -/
def tabAt (T : List S79) (i : Nat) : Bool := tabOk (rd_T79 T i).f0 (rd_T79 T i).f1 && !(anyB (fun j => decide ((rd_T79 T j).f0.toList = (rd_T79 T i).f0.toList)) i)
def projAt (n : Int) (T : List S79) (P : List S66) (i : Nat) : Bool := projOk n T (rd_T66 P i) && !(anyB (fun j => decide ((rd_T66 P j).f0.toList = (rd_T66 P i).f0.toList)) i)
def ofAt (n s k : Int) (P : List S66) (i : Nat) : Bool := !(ofL n s k P i).isEmpty
section
variable {n s k : Int} {T : List S79} {P : List S66}
theorem chk_head (h : headOk n s k = false) : chk n s k T P = 133 := by unfold chk; rw [if_pos h]
theorem headOk_n1 (h : n < 1) : headOk n s k = false := by unfold headOk; rw [decide_eq_false (show ¬ 1 ≤ n by omega)]; rfl
theorem headOk_n8 (h : 8 < n) : headOk n s k = false := by unfold headOk; rw [decide_eq_false (show ¬ n ≤ 8 by omega)]; simp
theorem headOk_k0 (h : k < 0) : headOk n s k = false := by unfold headOk; rw [decide_eq_false (show ¬ 0 ≤ k by omega)]; simp
theorem headOk_kn (h : n ≤ k) : headOk n s k = false := by unfold headOk; rw [decide_eq_false (show ¬ k < n by omega)]; simp
theorem headOk_s1 (h : s < 1) : headOk n s k = false := by unfold headOk; rw [decide_eq_false (show ¬ 1 ≤ s by omega)]; simp
theorem headOk_s8 (h : 8 < s) : headOk n s k = false := by unfold headOk; rw [decide_eq_false (show ¬ s ≤ 8 by omega)]; simp
theorem headOk_yes (h1 : 1 ≤ n) (h2 : n ≤ 8) (h3 : 0 ≤ k) (h4 : k < n) (h5 : 1 ≤ s) (h6 : s ≤ 8) : headOk n s k = true := by
  unfold headOk; rw [decide_eq_true h1, decide_eq_true h2, decide_eq_true h3, decide_eq_true h4, decide_eq_true h5, decide_eq_true h6]; rfl
theorem headOk_iff : headOk n s k = true ↔ (1 ≤ n ∧ n ≤ 8) ∧ (0 ≤ k ∧ k < n) ∧ (1 ≤ s ∧ s ≤ 8) := by
  unfold headOk; simp only [Bool.and_eq_true, decide_eq_true_eq]; omega
theorem chk_len (h : headOk n s k = true) (h1 : T.length < 1 ∨ 4 < T.length) : chk n s k T P = 130 := by
  unfold chk
  rw [if_neg (by rw [h]; decide), if_pos (by rw [Bool.and_eq_false_iff, decide_eq_false_iff_not, decide_eq_false_iff_not]; omega)]
theorem chk_from (h : headOk n s k = true) (h1 : 1 ≤ T.length) (h2 : T.length ≤ 4) : chk n s k T P = if tabsOk T = false then 130 else if 8 < P.length then 131 else if projsOk n T P = false then 131 else if allB (fun i => covB T P i) T.length = false then 132 else if allB (ofAt n s k P) n.toNat = false then 133 else 0 := by
  unfold chk
  rw [if_neg (by rw [h]; decide), if_neg (by rw [decide_eq_true h1, decide_eq_true h2]; decide)]
  rfl
theorem chk_tab (h : headOk n s k = true) (h1 : 1 ≤ T.length) (h2 : T.length ≤ 4) {i : Nat} (hi : i < T.length) (hn : tabAt T i = false) : chk n s k T P = 130 := by
  rw [chk_from h h1 h2, if_pos (show tabsOk T = false from allB_no hi hn)]
theorem tabsOk_yes (h : ∀ i, i < T.length → tabAt T i = true) : tabsOk T = true := allB_iff.2 h
theorem chk_projs (h : headOk n s k = true) (h1 : 1 ≤ T.length) (h2 : T.length ≤ 4) (h3 : tabsOk T = true) (h4 : 8 < P.length) : chk n s k T P = 131 := by
  rw [chk_from h h1 h2, if_neg (by rw [h3]; decide), if_pos h4]
theorem chk_proj (h : headOk n s k = true) (h1 : 1 ≤ T.length) (h2 : T.length ≤ 4) (h3 : tabsOk T = true) (h4 : P.length ≤ 8) {i : Nat} (hi : i < P.length) (hn : projAt n T P i = false) : chk n s k T P = 131 := by
  rw [chk_from h h1 h2, if_neg (by rw [h3]; decide), if_neg (by omega), if_pos (show projsOk n T P = false from allB_no hi hn)]
theorem projsOk_yes (h : ∀ i, i < P.length → projAt n T P i = true) : projsOk n T P = true := allB_iff.2 h
theorem chk_cov (h : headOk n s k = true) (h1 : 1 ≤ T.length) (h2 : T.length ≤ 4) (h3 : tabsOk T = true) (h4 : P.length ≤ 8) (h5 : projsOk n T P = true) {i : Nat} (hi : i < T.length) (hn : covB T P i = false) : chk n s k T P = 132 := by
  rw [chk_from h h1 h2, if_neg (by rw [h3]; decide), if_neg (by omega), if_neg (by rw [h5]; decide), if_pos (allB_no hi hn)]
theorem chk_of (h : headOk n s k = true) (h1 : 1 ≤ T.length) (h2 : T.length ≤ 4) (h3 : tabsOk T = true) (h4 : P.length ≤ 8) (h5 : projsOk n T P = true) (h6 : ∀ i : Nat, i < T.length → covB T P i = true) {i : Nat} (hi : i < n.toNat) (hn : ofAt n s k P i = false) : chk n s k T P = 133 := by
  rw [chk_from h h1 h2, if_neg (by rw [h3]; decide), if_neg (by omega), if_neg (by rw [h5]; decide), if_neg (by rw [allB_iff.2 h6]; decide), if_pos (allB_no hi hn)]
theorem chk_ok (h : headOk n s k = true) (h1 : 1 ≤ T.length) (h2 : T.length ≤ 4) (h3 : tabsOk T = true) (h4 : P.length ≤ 8) (h5 : projsOk n T P = true) (h6 : ∀ i : Nat, i < T.length → covB T P i = true) (h7 : ∀ i, i < n.toNat → ofAt n s k P i = true) : chk n s k T P = 0 := by
  rw [chk_from h h1 h2, if_neg (by rw [h3]; decide), if_neg (by omega), if_neg (by rw [h5]; decide), if_neg (by rw [allB_iff.2 h6]; decide), if_neg (by rw [allB_iff.2 h7]; decide)]
/-- What Check takes. -/
structure Taken (n s k : Int) (T : List S79) (P : List S66) : Prop where
  head : headOk n s k = true
  t1 : 1 ≤ T.length
  t4 : T.length ≤ 4
  tabs : tabsOk T = true
  p8 : P.length ≤ 8
  projs : projsOk n T P = true
  cov : ∀ i : Nat, i < T.length → covB T P i = true
  of_ : ∀ i, i < n.toNat → ofAt n s k P i = true
theorem taken_of (h : chk n s k T P = 0) : Taken n s k T P := by
  unfold chk at h
  split at h
  · cases h
  rename_i a1
  split at h
  · cases h
  rename_i a2
  split at h
  · cases h
  rename_i a3
  split at h
  · cases h
  rename_i a4
  split at h
  · cases h
  rename_i a5
  split at h
  · cases h
  rename_i a6
  split at h
  · cases h
  rename_i a7
  have a2' : (decide (1 ≤ T.length) && decide (T.length ≤ 4)) = true := by simpa using a2
  simp only [Bool.and_eq_true, decide_eq_true_eq] at a2'
  exact ⟨by simpa using a1, a2'.1, a2'.2, by simpa using a3, by omega, by simpa using a5, allB_iff.1 (by simpa using a6), allB_iff.1 (show allB (ofAt n s k P) n.toNat = true from (Bool.not_eq_false _).mp a7)⟩
theorem projAt_ok {i : Nat} (h : projAt n T P i = true) : projOk n T (rd_T66 P i) = true := by unfold projAt at h; simp only [Bool.and_eq_true] at h; exact h.1
theorem tabAt_ok {i : Nat} (h : tabAt T i = true) : tabOk (rd_T79 T i).f0 (rd_T79 T i).f1 = true := by unfold tabAt at h; simp only [Bool.and_eq_true] at h; exact h.1
theorem projOk_parts {p : S66} (h : projOk n T p = true) : (0 ≤ p.f1 ∧ p.f1 < T.length) ∧ (0 ≤ p.f5 ∧ p.f5 < n) ∧ plOk p.f2 (rd_T79 T p.f1).f1.length = true := by
  unfold projOk at h
  simp only [Bool.and_eq_true, decide_eq_true_eq] at h
  obtain ⟨⟨⟨⟨⟨⟨⟨⟨⟨_, h1⟩, h2⟩, _⟩, h3⟩, h4⟩, h5⟩, _⟩, _⟩, _⟩ := h
  exact ⟨⟨h1, h2⟩, ⟨h3, h4⟩, h5⟩
theorem good_of (h : headOk n s k = true) (h4 : P.length ≤ 8) (h5 : projsOk n T P = true) : Good n s k P := by
  obtain ⟨hn, hk, hs⟩ := headOk_iff.1 h
  refine ⟨hn, hk, hs, h4, fun a h0 h1 => ?_⟩
  obtain ⟨i, rfl⟩ := Int.eq_ofNat_of_zero_le h0
  exact (projOk_parts (projAt_ok (allB_iff.1 h5 i (by omega)))).2.1
/-- Unlike places below m are at most m. -/
theorem nodup_le : ∀ (m : Nat) (l : List Int), l.Nodup → (∀ x ∈ l, 0 ≤ x ∧ x < m) → l.length ≤ m := by
  intro m
  induction m with
  | zero =>
    intro l _ h
    cases l with
    | nil => simp
    | cons x l => have := h x (by simp); omega
  | succ m ih =>
    intro l hn h
    have h1 := ih (l.erase (m : Int)) (hn.erase _) (fun x hx => by
      have h2 := h x (List.mem_of_mem_erase hx)
      have h3 : x ≠ (m : Int) := fun e => by subst e; exact (List.Nodup.mem_erase_iff hn).1 hx |>.1 rfl
      omega)
    have h2 := List.length_erase_le (a := (m : Int)) (l := l)
    have h3 : l.length ≤ (l.erase (m : Int)).length + 1 := by
      rw [List.length_erase]; split <;> omega
    omega
theorem plOk_nodup {l : List Int} {m : Int} (h : plOk l m = true) : l.Nodup := by
  rw [List.nodup_iff_pairwise_ne, List.pairwise_iff_getElem]
  intro i j hi hj hij e
  have h1 := allB_iff.1 h j hj
  simp only [Bool.and_eq_true, Bool.not_eq_true'] at h1
  have h2 : (l.take j).contains (rd l j) = true := by
    rw [List.contains_iff_mem, rd_nat l j hj, ← e, List.mem_iff_getElem]
    exact ⟨i, by simp; omega, by simp⟩
  rw [h2] at h1
  exact absurd h1.2 (by decide)
theorem plOk_len {l : List Int} {m : Nat} (h : plOk l m = true) : l.length ≤ m := by
  refine nodup_le m l (plOk_nodup h) (fun x hx => ?_)
  obtain ⟨i, hi, rfl⟩ := List.mem_iff_getElem.1 hx
  have h1 := allB_iff.1 h i hi
  simp only [Bool.and_eq_true, decide_eq_true_eq] at h1
  rw [rd_nat l i hi] at h1
  exact ⟨h1.1.1, h1.1.2⟩
theorem cols_eight (h3 : tabsOk T = true) (h5 : projsOk n T P = true) (a : Nat) (ha : a < P.length) : (rd_T66 P a).f2.length ≤ 8 := by
  obtain ⟨⟨h0, h1⟩, _, hp⟩ := projOk_parts (projAt_ok (allB_iff.1 h5 a ha))
  obtain ⟨i, hi⟩ := Int.eq_ofNat_of_zero_le h0
  have h2 := tabAt_ok (allB_iff.1 h3 i (by omega))
  unfold tabOk at h2
  simp only [Bool.and_eq_true, decide_eq_true_eq] at h2
  rw [← hi] at h2
  exact Nat.le_trans (plOk_len hp) h2.1.2
end
theorem tabs_any (T : List S79) (nm : List UInt8) (i : Nat) (hi : i ≤ T.length) : (T.take i).any (fun x => x.f0.toList == nm) = anyB (fun j => decide ((rd_T79 T j).f0.toList = nm)) i := by
  rw [Bool.eq_iff_iff, List.any_eq_true, anyB_iff]
  constructor
  · rintro ⟨x, hx, h⟩
    obtain ⟨j, hj, rfl⟩ := List.mem_iff_getElem.1 hx
    rw [List.length_take] at hj
    have hj2 : j < T.length := by omega
    exact ⟨j, by omega, by simpa [rd_T79, List.getD_eq_getElem?_getD, hj2] using h⟩
  · rintro ⟨j, hj, h⟩
    have hj2 : j < T.length := by omega
    refine ⟨T[j], List.mem_iff_getElem.2 ⟨j, by simp; omega, by simp⟩, ?_⟩
    simpa [rd_T79, List.getD_eq_getElem?_getD, hj2] using h
theorem projs_any (P : List S66) (nm : List UInt8) (i : Nat) (hi : i ≤ P.length) : (P.take i).any (fun x => x.f0.toList == nm) = anyB (fun j => decide ((rd_T66 P j).f0.toList = nm)) i := by
  rw [Bool.eq_iff_iff, List.any_eq_true, anyB_iff]
  constructor
  · rintro ⟨x, hx, h⟩
    obtain ⟨j, hj, rfl⟩ := List.mem_iff_getElem.1 hx
    rw [List.length_take] at hj
    have hj2 : j < P.length := by omega
    exact ⟨j, by omega, by simpa [rd_T66, List.getD_eq_getElem?_getD, hj2] using h⟩
  · rintro ⟨j, hj, h⟩
    have hj2 : j < P.length := by omega
    refine ⟨P[j], List.mem_iff_getElem.2 ⟨j, by simp; omega, by simp⟩, ?_⟩
    simpa [rd_T66, List.getD_eq_getElem?_getD, hj2] using h
end Go.Proofs.Ytnaaaldeadjohaa.Cat
