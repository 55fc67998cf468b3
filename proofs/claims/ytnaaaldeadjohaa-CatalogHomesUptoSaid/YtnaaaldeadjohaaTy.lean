import Derived.Test.YtnaaaldeadjohaaTu
set_option linter.unusedVariables false
set_option linter.unusedSimpArgs false
namespace Go.Proofs.Ytnaaaldeadjohaa.Cat
open Go.RowKit Go.Shelf Go.Proofs Go.Proofs.YtnaaaldeadjohaaW.PrintWords Go.Proofs.Ytnaaaldeadjohaa.PCatalogLies
/-! ### The law CatalogHomes -/
theorem Taken.good {n s k : Int} {T : List S79} {P : List S66} (h : Taken n s k T P) : Good n s k P := good_of h.head h.p8 h.projs
theorem In_calls (A : Option Addr) (n c : Nat) (l : List Int) (x : Int) (w : World) (hn : l.length = n) (hr : Kd.C (Kd.int .i64) w A n l) (hc : n ≤ c) :
    Calls Try.prog 22 #[.slice A n c, .int .i64 x] w fun e w' => e = .returned (.bool (hasB l x)) ∧ Drawn0 w w' := in_calls A n c l x w hn hr hc
theorem segs_range {s : Int} {P : List S66} {y : S31} (h : y ∈ segsL s P) : inRange s P y.f0 y.f1 = true := by
  unfold segsL at h
  obtain ⟨p, hp, h⟩ := List.mem_flatMap.1 h
  obtain ⟨q, hq, rfl⟩ := List.mem_map.1 h
  have h1 := List.mem_range.1 hp
  have h2 := List.mem_range.1 hq
  exact inRange_iff.2 ⟨by show (0 : Int) ≤ (p : Int); omega, by show (p : Int) < P.length; omega, by show (0 : Int) ≤ (q : Int); omega, by show (q : Int) < s; omega⟩
theorem nodes_len {n s k : Int} {P : List S66} {a b : Int} (h : inRange s P a b = true) : (nodesL n s k P a b).length = (k + 1).toNat := by
  unfold nodesL; rw [if_pos h]; simp
theorem emod_ne (x n : Int) (i j : Nat) (hn : 1 ≤ n) (hij : i < j) (hj : (j : Int) < n) : (x + (i : Int)) % n ≠ (x + (j : Int)) % n := by
  intro e
  have h := Int.emod_emod_of_dvd (x + (j : Int) - (x + (i : Int))) (Int.dvd_refl n)
  have h2 : ((j : Int) - i) % n = 0 := by
    have h3 : (x + (j : Int) - (x + (i : Int))) % n = 0 := by rw [Int.sub_emod, ← e, Int.sub_self, Int.zero_emod]
    rwa [show x + (j : Int) - (x + (i : Int)) = (j : Int) - i by omega] at h3
  rw [Int.emod_eq_of_lt (by omega) (by omega)] at h2
  omega
theorem nodes_nodup {n s k : Int} {P : List S66} (g : Good n s k P) (a b : Int) : (nodesL n s k P a b).Nodup := by
  have gn := g.hn
  have gk := g.hk
  unfold nodesL
  split
  · rw [List.nodup_iff_pairwise_ne, List.pairwise_iff_getElem]
    intro i j hi hj hij
    simp at hi hj
    simp only [List.getElem_map, List.getElem_range]
    exact emod_ne (b + (rd_T66 P a).f5) n i j (by omega) hij (by omega)
  · exact List.nodup_nil
theorem nodup_sub : ∀ {l m : List Int}, l.Nodup → (∀ x ∈ l, x ∈ m) → l.length ≤ m.length
  | [], _, _, _ => Nat.zero_le _
  | x :: l, m, h, hs => by
    have hx := hs x (by simp)
    obtain ⟨h1, h2⟩ := List.nodup_cons.1 h
    have h3 := nodup_sub (l := l) (m := m.erase x) h2 (fun y hy => (List.mem_erase_of_ne (fun e => by subst e; exact h1 hy)).2 (hs y (by simp [hy])))
    rw [List.length_erase, if_pos (by simpa using hx)] at h3
    have : 0 < m.length := List.length_pos_of_mem hx
    simp only [List.length_cons]
    omega
/-- How many of the first i segments lie at a node. -/
def hitB (n s k : Int) (P : List S66) (x : Int) (y : S31) : Bool := hasB (nodesL n s k P y.f0 y.f1) x
def cntN (n s k : Int) (P : List S66) (x : Int) (i : Nat) : Nat := (((segsL s P).take i).filter (hitB n s k P x)).length
theorem ofL_hit (n s k : Int) (P : List S66) (x : Int) : ofL n s k P x = (segsL s P).filter (hitB n s k P x) := rfl
section
variable {n s k : Int} {P : List S66} {x : Int} {i : Nat}
theorem cntN_no (hi : i < (segsL s P).length) (h : hitB n s k P x (segsL s P)[i] = false) : cntN n s k P x (i + 1) = cntN n s k P x i := by
  unfold cntN; rw [List.take_succ_eq_append_getElem hi, List.filter_append]; simp [List.filter_cons, h]
theorem cntN_yes (hi : i < (segsL s P).length) (h : hitB n s k P x (segsL s P)[i] = true) : cntN n s k P x (i + 1) = cntN n s k P x i + 1 := by
  unfold cntN; rw [List.take_succ_eq_append_getElem hi, List.filter_append]; simp [List.filter_cons, h]
theorem cntN_all : cntN n s k P x (segsL s P).length = (ofL n s k P x).length := by unfold cntN; rw [List.take_length, ofL_hit]
theorem cntN_le : cntN n s k P x i ≤ (segsL s P).length := by
  unfold cntN
  exact Nat.le_trans (List.length_filter_le _ _) (by rw [List.length_take]; omega)
theorem hit_at (hi : i < (segsL s P).length) (h : hitB n s k P x (segsL s P)[i] = true) : ∃ hlt : cntN n s k P x i < (ofL n s k P x).length, (ofL n s k P x)[cntN n s k P x i] = (segsL s P)[i] := by
  have e : ofL n s k P x = ((segsL s P).take i).filter (hitB n s k P x) ++ (segsL s P)[i] :: ((segsL s P).drop (i + 1)).filter (hitB n s k P x) := by
    rw [ofL_hit]
    conv => lhs; rw [← List.take_append_drop i (segsL s P), List.filter_append, List.drop_eq_getElem_cons hi, List.filter_cons, if_pos h]
  refine ⟨by rw [e, List.length_append]; simp [cntN], ?_⟩
  simp only [e]
  rw [List.getElem_append_right (by simp [cntN])]
  simp [cntN]
end
/-- Copies on the first i nodes. -/
def copiesN (n s k : Int) (P : List S66) : Nat → Nat
  | 0 => 0
  | i + 1 => copiesN n s k P i + (ofL n s k P (i : Int)).length
def hitsN (f : Nat → Bool) : Nat → Nat
  | 0 => 0
  | i + 1 => hitsN f i + (if f i = true then 1 else 0)
def rowsN (g : Nat → S31 → Bool) (l : List S31) : Nat → Nat
  | 0 => 0
  | i + 1 => rowsN g l i + (l.filter (g i)).length
theorem rowsN_cons (g : Nat → S31 → Bool) (y : S31) (l : List S31) : ∀ i, rowsN g (y :: l) i = hitsN (fun j => g j y) i + rowsN g l i
  | 0 => rfl
  | i + 1 => by
    have h := rowsN_cons g y l i
    simp only [rowsN, hitsN, List.filter_cons, h]
    split <;> simp <;> omega
theorem rowsN_nil (g : Nat → S31 → Bool) : ∀ i, rowsN g [] i = 0
  | 0 => rfl
  | i + 1 => by simp [rowsN, rowsN_nil g i]
theorem rowsN_const (g : Nat → S31 → Bool) (m c : Nat) : ∀ l : List S31, (∀ y ∈ l, hitsN (fun j => g j y) m = c) → rowsN g l m = l.length * c
  | [], _ => by simp [rowsN_nil]
  | y :: l, h => by
    rw [rowsN_cons, h y (by simp), rowsN_const g m c l (fun z hz => h z (by simp [hz])), List.length_cons, Nat.succ_mul]
    omega
theorem hitsN_filter (f : Nat → Bool) : ∀ i, hitsN f i = ((List.range i).filter f).length
  | 0 => rfl
  | i + 1 => by
    rw [hitsN, hitsN_filter f i, List.range_succ, List.filter_append, List.length_append]
    cases h : f i <;> simp [List.filter_cons, h]
theorem copiesN_rows (n s k : Int) (P : List S66) : ∀ i, copiesN n s k P i = rowsN (fun j => hitB n s k P (j : Int)) (segsL s P) i
  | 0 => rfl
  | i + 1 => by rw [copiesN, rowsN, copiesN_rows n s k P i, ofL_hit]
theorem hits_len {m : Nat} {l : List Int} (hd : l.Nodup) (hm : ∀ x ∈ l, 0 ≤ x ∧ x < (m : Int)) : hitsN (fun j => hasB l (j : Int)) m = l.length := by
  rw [hitsN_filter]
  have h1 := nodup_sub (l := l) (m := ((List.range m).filter fun (j : Nat) => hasB l (j : Int)).map fun (j : Nat) => (j : Int)) hd (fun x hx => by
    obtain ⟨h0, h1⟩ := hm x hx
    obtain ⟨i, rfl⟩ := Int.eq_ofNat_of_zero_le h0
    exact List.mem_map.2 ⟨i, List.mem_filter.2 ⟨List.mem_range.2 (by omega), by unfold hasB; rw [List.contains_iff_mem]; exact hx⟩, rfl⟩)
  have h2 := nodup_sub (l := ((List.range m).filter fun (j : Nat) => hasB l (j : Int)).map fun (j : Nat) => (j : Int)) (m := l) (by
      rw [List.nodup_iff_pairwise_ne, List.pairwise_map]
      have := (List.nodup_iff_pairwise_ne.1 (List.nodup_range (n := m))).filter (fun (j : Nat) => hasB l (j : Int))
      exact this.imp (fun h e => h (by exact_mod_cast e))) (fun x hx => by
    obtain ⟨i, hi, rfl⟩ := List.mem_map.1 hx
    have := (List.mem_filter.1 hi).2
    unfold hasB at this
    rwa [List.contains_iff_mem] at this)
  rw [List.length_map] at h1 h2
  omega
/-- ALL COPIES TOGETHER. -/
theorem copies_all {nn : Nat} {s k : Int} {P : List S66} (g : Good nn s k P) : copiesN nn s k P nn = (P.length * s.toNat) * (k + 1).toNat := by
  rw [copiesN_rows, rowsN_const _ nn (k + 1).toNat _ (fun y hy => by
    rw [show (fun j : Nat => hitB nn s k P (j : Int) y) = fun j : Nat => hasB (nodesL nn s k P y.f0 y.f1) (j : Int) from rfl, hits_len (nodes_nodup g _ _) (fun x hx => nodesL_nonneg _ s k P g _ _ x hx), nodes_len (segs_range hy)]), segsL_length]
theorem copiesN_mono (n s k : Int) (P : List S66) {i j : Nat} (h : i ≤ j) : copiesN n s k P i ≤ copiesN n s k P j := by
  induction j with
  | zero => have : i = 0 := by omega
            subst this; exact Nat.le_refl _
  | succ j ih =>
    by_cases e : i = j + 1
    · subst e; exact Nat.le_refl _
    · exact Nat.le_trans (ih (by omega)) (by rw [copiesN]; omega)
end Go.Proofs.Ytnaaaldeadjohaa.Cat
