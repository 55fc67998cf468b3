import Derived.Test.YtnaaaldeadjohaaTc
set_option linter.unusedVariables false
set_option linter.unusedSimpArgs false
namespace Go.Proofs.Ytnaaaldeadjohaa.Cat
open Go.RowKit Go.Proofs.YtnaaaldeadjohaaW.PrintWords Go.Proofs.Ytnaaaldeadjohaa.PCatalogLies

/-- The segments of one projection; of those ahead of a. -/
def segsOne (s : Int) (p : Nat) (q : Nat) : List S31 := (List.range q).map fun (q : Nat) => (⟨(p : Int), (q : Int)⟩ : S31)
def segsPre (s : Int) (a : Nat) : List S31 := (List.range a).flatMap fun (p : Nat) => segsOne s p s.toNat
theorem segsPre_succ (s : Int) (a : Nat) : segsPre s (a + 1) = segsPre s a ++ segsOne s a s.toNat := by
  simp [segsPre, List.range_succ, List.flatMap_append]
theorem segsPre_length (s : Int) (a : Nat) : (segsPre s a).length = a * s.toNat := by
  induction a with
  | zero => simp [segsPre]
  | succ a ih => rw [segsPre_succ, List.length_append, ih]; simp [segsOne, Nat.add_mul]
theorem segsL_pre (s : Int) (P : List S66) : segsL s P = segsPre s P.length := rfl
theorem segsL_length (s : Int) (P : List S66) : (segsL s P).length = P.length * s.toNat := segsPre_length s P.length
theorem segments_ev (n s k : Int) (T : List S79) (P : List S66) (g : Good n s k P) : Ev (fun q => hayloftref13_Segments.f q n s k T P) (segsL s P) := by
  obtain ⟨gs, gP⟩ := (⟨g.hs, g.hP⟩ : (1 ≤ s ∧ s ≤ 8) ∧ P.length ≤ 8)
  have hlen : ∀ a, a ≤ P.length → (segsPre s a).length ≤ 64 := by
    intro a ha
    rw [segsPre_length]
    exact Nat.le_trans (Nat.mul_le_mul (Nat.le_trans ha gP) (show s.toNat ≤ 8 by omega)) (by decide)
  refine loop_fold (fun q l i => hayloftref13_Segments.l0 q l (i : Int) n s k T P) (fun a => segsPre s a) P.length (segsL s P) ?_ ?_
  · intro a ha hr
    have hin : Ev (fun q => hayloftref13_Segments.l1 q (segsPre s a ++ segsOne s a 0) (a : Int) ((0 : Nat) : Int) n s k T P) (segsL s P) := by
      refine loop_fold (fun q l i => hayloftref13_Segments.l1 q l (a : Int) (i : Int) n s k T P) (fun b => segsPre s a ++ segsOne s a b) s.toNat (segsL s P) ?_ ?_
      · rintro b hb ⟨K, hK⟩
        dsimp only at hK
        refine ev_succ ⟨K, fun q hq => ?_⟩
        simp only [hayloftref13_Segments.l1]
        have h64 := hlen a (by omega)
        rw [if_pos (by omega), if_pos (by rw [List.length_append]; simp [segsOne]; omega), w64 b (by omega), List.append_assoc]
        have e : segsOne s a b ++ [(⟨(a : Int), (b : Int)⟩ : S31)] = segsOne s a (b + 1) := by simp [segsOne, List.range_succ]
        rw [e]
        exact hK q hq
      · obtain ⟨K, hK⟩ := hr
        dsimp only at hK
        refine ev_succ ⟨K, fun q hq => ?_⟩
        simp only [hayloftref13_Segments.l1]
        rw [if_neg (by omega), w64 a (by omega), ← segsPre_succ]
        exact hK q hq
    obtain ⟨K, hK⟩ := hin
    dsimp only at hK
    refine ev_succ ⟨K, fun q hq => ?_⟩
    simp only [hayloftref13_Segments.l0]
    rw [if_pos (by omega)]
    have := hK q hq
    simpa [segsOne] using this
  · refine ev_succ ⟨0, fun q hq => ?_⟩
    simp only [hayloftref13_Segments.l0]
    rw [if_neg (by omega)]
    rfl
theorem rdT31_nat (l : List S31) (i : Nat) (h : i < l.length) : rd_T31 l i = l[i] := by simp [rd_T31, List.getD_eq_getElem?_getD, h]
theorem nodesL_length (n s k : Int) (P : List S66) (g : Good n s k P) (a b : Int) : (nodesL n s k P a b).length ≤ 8 := by
  have := g.hk; have := g.hn
  unfold nodesL
  split
  · simp; omega
  · simp
theorem of13_ev (n s k : Int) (T : List S79) (P : List S66) (g : Good n s k P) (x : Int) : Ev (fun q => hayloftref13_Of.f q n s k T P x) (ofL n s k P x) := by
  obtain ⟨gs, gP⟩ := (⟨g.hs, g.hP⟩ : (1 ≤ s ∧ s ≤ 8) ∧ P.length ≤ 8)
  have h64 : (segsL s P).length ≤ 64 := by
    rw [segsL_length]
    exact Nat.le_trans (Nat.mul_le_mul gP (show s.toNat ≤ 8 by omega)) (by decide)
  refine Ev.bind (segments_ev n s k T P g) ?_
  have h := loop_fold (fun q l i => hayloftref13_Of.l0 q x l (segsL s P) (i : Int) n s k T P) (fun i => ((segsL s P).take i).filter fun at_ => (nodesL n s k P at_.f0 at_.f1).contains x) (segsL s P).length (ofL n s k P x) ?_ ?_
  · simpa using h
  · rintro i hi ⟨K, hK⟩
    dsimp only at hK
    obtain ⟨K2, h2⟩ := nodes13_ev n s k T P g (segsL s P)[i].f0 (segsL s P)[i].f1
    obtain ⟨K3, h3⟩ := in_ev (nodesL n s k P (segsL s P)[i].f0 (segsL s P)[i].f1) x (by have := nodesL_length n s k P g (segsL s P)[i].f0 (segsL s P)[i].f1; omega)
    dsimp only at h2 h3
    refine ev_succ ⟨max K (max K2 K3), fun q hq => ?_⟩
    simp only [hayloftref13_Of.l0]
    rw [if_pos (by omega), if_pos (by omega), rdT31_nat _ i hi, h2 q (by omega)]
    simp only [Option.bind_some]
    rw [h3 q (by omega)]
    simp only [Option.bind_some]
    have hK' := hK q (by omega)
    rw [List.take_succ_eq_append_getElem hi, List.filter_append] at hK'
    have hl : (((segsL s P).take i).filter fun at_ => (nodesL n s k P at_.f0 at_.f1).contains x).length < 8796093022208 := by
      have := List.length_filter_le (fun at_ : S31 => (nodesL n s k P at_.f0 at_.f1).contains x) ((segsL s P).take i)
      have := List.length_take_le i (segsL s P)
      omega
    cases hc : (nodesL n s k P (segsL s P)[i].f0 (segsL s P)[i].f1).contains x
    · simp only [List.filter_cons, List.filter_nil, hc, Bool.false_eq_true, if_false, List.append_nil] at hK'
      rw [if_neg (by decide), w64 i (by omega)]
      exact hK'
    · simp only [List.filter_cons, List.filter_nil, hc, if_true] at hK'
      rw [if_pos rfl, if_pos hl, w64 i (by omega)]
      exact hK'
  · refine ev_succ ⟨0, fun q hq => ?_⟩
    simp only [hayloftref13_Of.l0]
    rw [if_neg (by omega), List.take_length]
    rfl
theorem ext_any {α : Type} (l m : List α) (z : α) (hlen : l.length = m.length) (hb : ∀ i : Nat, i < l.length → l.getD i z = m.getD i z) : l = m := by
  apply List.ext_getElem hlen
  intro i h1 h2
  have := hb i h1
  simpa [List.getD_eq_getElem?_getD, h1, h2] using this
theorem sameSegs_ev (l m : List S31) (hl : l.length ≤ 9223372036854775807) (e : l = m) : Ev (fun q => hayloftref13_SameSegments.f q l m) true := by
  subst e
  have h := loop_fold (fun q (_ : Unit) i => hayloftref13_SameSegments.l0 q l l (i : Int)) (fun _ => ()) l.length true
    (fun i hi ⟨K, hK⟩ => ev_succ ⟨K, fun q hq => by
      simp only [hayloftref13_SameSegments.l0]
      rw [if_pos (by omega), if_pos (by omega), if_pos (by omega), if_neg (by simp), w64 i (by omega)]
      exact hK q hq⟩)
    (ev_succ ⟨0, fun q _ => by
      simp only [hayloftref13_SameSegments.l0]
      rw [if_neg (by omega)]⟩)
  unfold hayloftref13_SameSegments.f
  simpa using h
theorem sameInts_ev (l m : List Int) (hl : l.length ≤ 9223372036854775807) (e : l = m) : Ev (fun q => hayloftref13_SameInts.f q l m) true := by
  subst e
  have h := loop_fold (fun q (_ : Unit) i => hayloftref13_SameInts.l0 q l l (i : Int)) (fun _ => ()) l.length true
    (fun i hi ⟨K, hK⟩ => ev_succ ⟨K, fun q hq => by
      simp only [hayloftref13_SameInts.l0]
      rw [if_pos (by omega), if_pos (by omega), if_pos (by omega), if_pos trivial, w64 i (by omega)]
      exact hK q hq⟩)
    (ev_succ ⟨0, fun q _ => by
      simp only [hayloftref13_SameInts.l0]
      rw [if_neg (by omega)]⟩)
  unfold hayloftref13_SameInts.f
  simpa using h
theorem nodesL_nonneg (n s k : Int) (P : List S66) (g : Good n s k P) (a b x : Int) (h : x ∈ nodesL n s k P a b) : 0 ≤ x ∧ x < n := by
  have gn := g.hn
  unfold nodesL at h
  split at h
  · obtain ⟨j, _, rfl⟩ := List.mem_map.1 h
    exact ⟨Int.emod_nonneg _ (by omega), Int.emod_lt_of_pos _ (by omega)⟩
  · cases h
theorem covered_ev (n s k : Int) (T : List S79) (P : List S66) (g : Good n s k P) (live : List Bool) : Ev (fun q => hayloftref13_Covered.f q n s k T P live) (covered n s k P live) := by
  obtain ⟨gs, gP⟩ := (⟨g.hs, g.hP⟩ : (1 ≤ s ∧ s ≤ 8) ∧ P.length ≤ 8)
  have h64 : (segsL s P).length ≤ 64 := by
    rw [segsL_length]
    exact Nat.le_trans (Nat.mul_le_mul gP (show s.toNat ≤ 8 by omega)) (by decide)
  refine Ev.bind (segments_ev n s k T P g) ?_
  have hin : ∀ (i : Nat) (hi : i < (segsL s P).length) (r : Bool), ((nodesL n s k P (segsL s P)[i].f0 (segsL s P)[i].f1).any (liveB live) = true → Ev (fun q => hayloftref13_Covered.l0 q live (segsL s P) ((i + 1 : Nat) : Int) n s k T P) r) →
      Ev (fun q => hayloftref13_Covered.l1 q live (segsL s P) (i : Int) false (nodesL n s k P (segsL s P)[i].f0 (segsL s P)[i].f1) ((0 : Nat) : Int) n s k T P) (if (nodesL n s k P (segsL s P)[i].f0 (segsL s P)[i].f1).any (liveB live) = true then r else false) := by
    intro i hi r hr
    generalize hN : nodesL n s k P (segsL s P)[i].f0 (segsL s P)[i].f1 = N at *
    have hN8 : N.length ≤ 8 := by rw [← hN]; exact nodesL_length n s k P g _ _
    have hNn : ∀ j (hj : j < N.length), 0 ≤ N[j] := fun j hj => (nodesL_nonneg n s k P g _ _ _ (by rw [hN]; exact List.getElem_mem hj)).1
    have h := loop_fold (fun q f j => hayloftref13_Covered.l1 q live (segsL s P) (i : Int) f N (j : Int) n s k T P) (fun j => (N.take j).any (liveB live)) N.length (if N.any (liveB live) = true then r else false) ?_ ?_
    · simpa using h
    · rintro j hj ⟨K, hK⟩
      dsimp only at hK
      refine ev_succ ⟨K, fun q hq => ?_⟩
      have hK' := hK q hq
      rw [List.take_succ_eq_append_getElem hj, List.any_append] at hK'
      simp only [List.any_cons, List.any_nil, Bool.or_false] at hK'
      simp only [hayloftref13_Covered.l1]
      rw [if_pos (by omega), w64 j (by omega)]
      cases hf : (N.take j).any (liveB live)
      · rw [hf, Bool.false_or] at hK'
        rw [if_neg (by decide), if_pos (by omega), rd_nat N j hj]
        unfold liveB at hK'
        have h0 := hNn j hj
        by_cases hlt : N[j] < (live.length : Int)
        · rw [if_pos hlt, if_pos h0]
          rw [decide_eq_true hlt, Bool.true_and] at hK'
          exact hK'
        · rw [if_neg hlt]
          rw [decide_eq_false hlt, Bool.false_and] at hK'
          exact hK'
      · rw [hf, Bool.true_or] at hK'
        rw [if_pos rfl]
        exact hK'
    · rw [List.take_length]
      cases hf : N.any (liveB live)
      · refine ev_succ ⟨0, fun q hq => ?_⟩
        simp only [hayloftref13_Covered.l1]
        rw [if_neg (by omega)]
        simp
      · obtain ⟨K, hK⟩ := hr hf
        dsimp only at hK
        refine ev_succ ⟨K, fun q hq => ?_⟩
        simp only [hayloftref13_Covered.l1]
        rw [if_neg (by omega), w64 i (by omega), if_pos trivial, if_pos trivial]
        exact hK q hq
  have hstep : ∀ (i : Nat) (hi : i < (segsL s P).length) (r : Bool), Ev (fun q => hayloftref13_Covered.l1 q live (segsL s P) (i : Int) false (nodesL n s k P (segsL s P)[i].f0 (segsL s P)[i].f1) ((0 : Nat) : Int) n s k T P) r →
      Ev (fun q => hayloftref13_Covered.l0 q live (segsL s P) (i : Int) n s k T P) r := by
    rintro i hi r ⟨K, hK⟩
    dsimp only at hK
    obtain ⟨K2, h2⟩ := nodes13_ev n s k T P g (segsL s P)[i].f0 (segsL s P)[i].f1
    dsimp only at h2
    refine ev_succ ⟨max K K2, fun q hq => ?_⟩
    simp only [hayloftref13_Covered.l0]
    rw [if_pos (by omega), if_pos (by omega), rdT31_nat _ i hi, h2 q (by omega)]
    simp only [Option.bind_some]
    exact hK q (by omega)
  have h := loop_all (fun q i => hayloftref13_Covered.l0 q live (segsL s P) (i : Int) n s k T P) (fun i => (nodesL n s k P (rd_T31 (segsL s P) i).f0 (rd_T31 (segsL s P) i).f1).any (liveB live)) (segsL s P).length true false ?_ ?_ ?_
  · have e : allB (fun i : Nat => (nodesL n s k P (rd_T31 (segsL s P) i).f0 (rd_T31 (segsL s P) i).f1).any (liveB live)) (segsL s P).length = covered n s k P live := by
      rw [Bool.eq_iff_iff, allB_iff, covered, List.all_eq_true]
      constructor
      · intro h x hx
        obtain ⟨i, hi, rfl⟩ := List.mem_iff_getElem.1 hx
        have := h i hi
        rwa [rdT31_nat _ i hi] at this
      · intro h i hi
        rw [rdT31_nat _ i hi]
        exact h _ (List.getElem_mem hi)
    rw [e, ite_tf] at h
    exact h
  · intro i hi hp r hr
    rw [rdT31_nat _ i hi] at hp
    have hx := hin i hi r (fun _ => hr)
    rw [if_pos hp] at hx
    exact hstep i hi r hx
  · intro i hi hp
    rw [rdT31_nat _ i hi] at hp
    have hx := hin i hi true (fun h => by rw [h] at hp; cases hp)
    rw [if_neg (by rw [hp]; decide)] at hx
    exact hstep i hi false hx
  · refine ev_succ ⟨0, fun q hq => ?_⟩
    simp only [hayloftref13_Covered.l0]
    rw [if_neg (by omega)]
end Go.Proofs.Ytnaaaldeadjohaa.Cat
