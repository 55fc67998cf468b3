import Derived.Test.YtnaaaldeadjohaaTv
set_option linter.unusedVariables false
set_option linter.unusedSimpArgs false
namespace Go.Proofs.Ytnaaaldeadjohaa.Cat
open Go.RowKit Go.Shelf Go.Proofs Go.Proofs.YtnaaaldeadjohaaW.PrintWords Go.Proofs.Ytnaaaldeadjohaa.PCatalogLies
/-! ### Plain laws: unlike nodes, and as many as the catalog wants -/
theorem segs_range {s : Int} {P : List S66} {y : S31} (h : y ∈ segsL s P) : inRange s P y.f0 y.f1 = true := by
  unfold segsL at h
  obtain ⟨p, hp, h⟩ := List.mem_flatMap.1 h
  obtain ⟨q, hq, rfl⟩ := List.mem_map.1 h
  have h1 := List.mem_range.1 hp
  have h2 := List.mem_range.1 hq
  exact inRange_iff.2 ⟨by show (0 : Int) ≤ (p : Int); omega, by show (p : Int) < P.length; omega, by show (0 : Int) ≤ (q : Int); omega, by show (q : Int) < s; omega⟩
theorem nodes_len {n s k : Int} {P : List S66} {a b : Int} (h : inRange s P a b = true) : (nodesL n s k P a b).length = (k + 1).toNat := by
  unfold nodesL; rw [if_pos h]; simp
theorem emod_ne (x n : Int) (i j : Nat) (hn : 1 ≤ n) (hij : i < j) (hj : (j : Int) < n) : (x + (i : Int)) % n ≠ (x + (j : Int)) % n := by
  intro e
  have h := Int.emod_emod_of_dvd (x + (j : Int) - (x + (i : Int))) (Int.dvd_refl n)
  have h2 : ((j : Int) - i) % n = 0 := by
    have h3 : (x + (j : Int) - (x + (i : Int))) % n = 0 := by rw [Int.sub_emod, ← e, Int.sub_self, Int.zero_emod]
    rwa [show x + (j : Int) - (x + (i : Int)) = (j : Int) - i by omega] at h3
  rw [Int.emod_eq_of_lt (by omega) (by omega)] at h2
  omega
theorem nodes_nodup {n s k : Int} {P : List S66} (g : Good n s k P) (a b : Int) : (nodesL n s k P a b).Nodup := by
  have gn := g.hn
  have gk := g.hk
  unfold nodesL
  split
  · rw [List.nodup_iff_pairwise_ne, List.pairwise_iff_getElem]
    intro i j hi hj hij
    simp at hi hj
    simp only [List.getElem_map, List.getElem_range]
    exact emod_ne (b + (rd_T66 P a).f5) n i j (by omega) hij (by omega)
  · exact List.nodup_nil
theorem nodup_sub : ∀ {l m : List Int}, l.Nodup → (∀ x ∈ l, x ∈ m) → l.length ≤ m.length
  | [], _, _, _ => Nat.zero_le _
  | x :: l, m, h, hs => by
    have hx := hs x (by simp)
    obtain ⟨h1, h2⟩ := List.nodup_cons.1 h
    have h3 := nodup_sub (l := l) (m := m.erase x) h2 (fun y hy => (List.mem_erase_of_ne (fun e => by subst e; exact h1 hy)).2 (hs y (by simp [hy])))
    rw [List.length_erase, if_pos (by simpa using hx)] at h3
    have : 0 < m.length := List.length_pos_of_mem hx
    simp only [List.length_cons]
    omega
/-- Which nodes live, and how many are away, where some are gone. -/
def liveL (gone : List Int) (n : Nat) : List Bool := (List.range n).map fun (i : Nat) => !(hasB gone (i : Int))
def awayN (gone : List Int) (i : Nat) : Nat := ((List.range i).filter fun (j : Nat) => hasB gone (j : Int)).length
theorem awayN_le (gone : List Int) (i : Nat) : awayN gone i ≤ i := by
  unfold awayN
  exact Nat.le_trans (List.length_filter_le _ _) (by simp)
theorem awayN_yes {gone : List Int} {i : Nat} (h : hasB gone (i : Int) = true) : awayN gone (i + 1) = awayN gone i + 1 := by
  unfold awayN; rw [List.range_succ, List.filter_append]; simp [List.filter_cons, h]
theorem awayN_no {gone : List Int} {i : Nat} (h : hasB gone (i : Int) = false) : awayN gone (i + 1) = awayN gone i := by
  unfold awayN; rw [List.range_succ, List.filter_append]; simp [List.filter_cons, h]
theorem liveB_L {gone : List Int} {n : Nat} {x : Int} (h0 : 0 ≤ x) (h1 : x < n) : liveB (liveL gone n) x = !(hasB gone x) := by
  obtain ⟨i, rfl⟩ := Int.eq_ofNat_of_zero_le h0
  have hi : i < n := by omega
  unfold liveB
  rw [decide_eq_true (by simp [liveL]; omega), Bool.true_and]
  simp [rdOf, liveL, List.getD_eq_getElem?_getD, hi]
/-- AS LONG AS AT MOST K NODES ARE AWAY, THE OTHERS HAVE ALL. -/
theorem safe {nn : Nat} {s k : Int} {P : List S66} (g : Good nn s k P) (gone : List Int) (h : (awayN gone nn : Int) ≤ k) : covered nn s k P (liveL gone nn) = true := by
  have gk := g.hk
  unfold covered
  rw [List.all_eq_true]
  intro y hy
  refine (Bool.not_eq_false _).mp fun e => ?_
  rw [List.any_eq_false] at e
  have h2 : (nodesL nn s k P y.f0 y.f1).length ≤ awayN gone nn := by
    have h3 := nodup_sub (l := nodesL nn s k P y.f0 y.f1) (m := ((List.range nn).filter fun (j : Nat) => hasB gone (j : Int)).map fun (j : Nat) => (j : Int)) (nodes_nodup g _ _) (fun x hx => by
      obtain ⟨h0, h1⟩ := nodesL_nonneg _ s k P g _ _ x hx
      have h4 := e x hx
      rw [liveB_L h0 h1] at h4
      obtain ⟨i, rfl⟩ := Int.eq_ofNat_of_zero_le h0
      refine List.mem_map.2 ⟨i, List.mem_filter.2 ⟨List.mem_range.2 (by omega), ?_⟩, rfl⟩
      simpa using h4)
    simpa [awayN] using h3
  rw [nodes_len (segs_range hy)] at h2
  omega
theorem take_miss {l : List Int} (h : l.Nodup) {i : Nat} (hi : i < l.length) : hasB (l.take i) l[i] = false := by
  cases e : hasB (l.take i) l[i]
  · rfl
  · unfold hasB at e
    rw [List.contains_iff_mem, List.mem_iff_getElem] at e
    obtain ⟨j, hj, e⟩ := e
    rw [List.length_take] at hj
    rw [List.getElem_take] at e
    exact absurd e (List.pairwise_iff_getElem.1 (List.nodup_iff_pairwise_ne.1 h) j i (by omega) hi (by omega))
end Go.Proofs.Ytnaaaldeadjohaa.Cat
