import Derived.Test.YtnaaaldeadjohaaTb
set_option linter.unusedVariables false
set_option linter.unusedSimpArgs false
namespace Go.Proofs.Ytnaaaldeadjohaa.Cat
open Go.RowKit Go.Proofs.YtnaaaldeadjohaaW.PrintWords Go.Proofs.Ytnaaaldeadjohaa.PCatalogLies

/-- A catalog whose numbers are as they must be. -/
structure Good (n s k : Int) (P : List S66) : Prop where
  hn : 1 ≤ n ∧ n ≤ 8
  hk : 0 ≤ k ∧ k < n
  hs : 1 ≤ s ∧ s ≤ 8
  hP : P.length ≤ 8
  hsh : ∀ a : Int, 0 ≤ a → a < P.length → 0 ≤ (rd_T66 P a).f5 ∧ (rd_T66 P a).f5 < n

theorem ite_tf (b : Bool) : (if b = true then true else false) = b := by cases b <;> rfl
theorem covers_ev (nm : ByteArray) (cs : List S76) (l : List Int) (hl : l.length ≤ 9223372036854775807) (hc : cs.length ≤ 9223372036854775807) : Ev (fun k => catalog_covers.f k nm cs l) (coversB cs l) := by
  have h := loop_all (fun k i => catalog_covers.l0 k l (cs.length : Int) (i : Int)) (fun i => l.contains (i : Int)) cs.length true false
    (fun i hi hp r ⟨K, hK⟩ => by
      obtain ⟨K2, h2⟩ := contains_ev l i hl
      dsimp only at h2
      exact ev_succ ⟨max K K2, fun k hk => by
        simp only [catalog_covers.l0]
        rw [if_pos (by omega), h2 k (by omega)]
        simp only [Option.bind_some]
        rw [if_pos hp, w64 i (by omega)]
        exact hK k (by omega)⟩)
    (fun i hi hp => by
      obtain ⟨K2, h2⟩ := contains_ev l i hl
      dsimp only at h2
      exact ev_succ ⟨K2, fun k hk => by
        simp only [catalog_covers.l0]
        rw [if_pos (by omega), h2 k (by omega)]
        simp only [Option.bind_some]
        rw [if_neg (by rw [hp]; decide)]⟩)
    (ev_succ ⟨0, fun k hk => by
      simp only [catalog_covers.l0]
      rw [if_neg (by omega)]⟩)
  rw [ite_tf] at h
  exact h
theorem all_ev (a0 : ByteArray) (cs : List S76) (b0 : ByteArray) (b1 : Int) (l : List Int) (b3 : List Int) (b4 b5 : Int) (c0 : ByteArray) (c1 : Int) (m : List Int) (c3 : List Int) (c4 c5 : Int)
    (hl : l.length ≤ 9223372036854775807) (hm : m.length ≤ 9223372036854775807) (hc : cs.length ≤ 9223372036854775807) :
    Ev (fun k => hayloftref13_All.f k a0 cs b0 b1 l b3 b4 b5 c0 c1 m c3 c4 c5) (coversB cs (l ++ m)) := by
  have h := loop_all (fun k i => hayloftref13_All.l0 k (i : Int) a0 cs b0 b1 l b3 b4 b5 c0 c1 m c3 c4 c5) (fun i => (l ++ m).contains (i : Int)) cs.length true false
    (fun i hi hp r ⟨K, hK⟩ => by
      obtain ⟨K2, h2⟩ := in_ev l i hl
      dsimp only at h2
      obtain ⟨K3, h3⟩ := in_ev m i hm
      dsimp only at h3
      exact ev_succ ⟨max K (max K2 K3), fun k hk => by
        simp only [hayloftref13_All.l0]
        rw [if_pos (by omega), h2 k (by omega)]
        simp only [Option.bind_some]
        rw [h3 k (by omega)]
        simp only [Option.bind_some]
        rw [w64 i (by omega)]
        have hK' := hK k (by omega)
        simp at hp
        rcases hp with hp | hp
        · rw [if_pos (by simpa using hp)]; exact hK'
        · split
          · exact hK'
          · rw [if_pos (by simpa using hp)]; exact hK'⟩)
    (fun i hi hp => by
      obtain ⟨K2, h2⟩ := in_ev l i hl
      dsimp only at h2
      obtain ⟨K3, h3⟩ := in_ev m i hm
      dsimp only at h3
      exact ev_succ ⟨max K2 K3, fun k hk => by
        simp only [hayloftref13_All.l0]
        rw [if_pos (by omega), h2 k (by omega)]
        simp only [Option.bind_some]
        rw [h3 k (by omega)]
        simp only [Option.bind_some]
        simp at hp
        rw [if_neg (by simpa using hp.1), if_neg (by simpa using hp.2)]⟩)
    (ev_succ ⟨0, fun k hk => by
      simp only [hayloftref13_All.l0]
      rw [if_neg (by omega)]⟩)
  rw [ite_tf] at h
  exact h
theorem covered13_ev (n s k : Int) (T : List S79) (P : List S66) (i : Int) (hP : P.length ≤ 9223372036854775807) (h0 : 0 ≤ i) (h1 : i < T.length) (hcs : (rd_T79 T i).f1.length ≤ 9223372036854775807)
    (hls : ∀ a : Nat, a < P.length → (rd_T66 P a).f2.length ≤ 9223372036854775807) :
    Ev (fun q => hayloftref13_covered.f q n s k T P i) (covB T P i) := by
  have hin : ∀ (a : Nat), a < P.length → ∀ r, (anyB (fun b => decide ((rd_T66 P a).f1 = i) && decide ((rd_T66 P b).f1 = i) && coversB (rd_T79 T i).f1 ((rd_T66 P a).f2 ++ (rd_T66 P b).f2)) P.length = false → Ev (fun q => hayloftref13_covered.l0 q i ((a + 1 : Nat) : Int) n s k T P) r) →
      Ev (fun q => hayloftref13_covered.l1 q i (a : Int) ((0 : Nat) : Int) n s k T P) (if anyB (fun b => decide ((rd_T66 P a).f1 = i) && decide ((rd_T66 P b).f1 = i) && coversB (rd_T79 T i).f1 ((rd_T66 P a).f2 ++ (rd_T66 P b).f2)) P.length = true then true else r) := by
    intro a ha r hr
    refine loop_any' (fun q b => hayloftref13_covered.l1 q i (a : Int) (b : Int) n s k T P) _ P.length true r ?_ ?_ ?_
    · intro b hb hp r ⟨K, hK⟩
      dsimp only at hK
      obtain ⟨K2, h2⟩ := all_ev (rd_T79 T i).f0 (rd_T79 T i).f1 (rd_T66 P a).f0 (rd_T66 P a).f1 (rd_T66 P a).f2 (rd_T66 P a).f3 (rd_T66 P a).f4 (rd_T66 P a).f5 (rd_T66 P b).f0 (rd_T66 P b).f1 (rd_T66 P b).f2 (rd_T66 P b).f3 (rd_T66 P b).f4 (rd_T66 P b).f5 (hls a ha) (hls b hb) hcs
      dsimp only at h2
      refine ev_succ ⟨max K K2 + 1, fun q hq => ?_⟩
      obtain ⟨q, rfl⟩ : ∃ m, q = m + 1 := ⟨q - 1, by omega⟩
      simp only [hayloftref13_covered.l1]
      rw [if_pos (by omega), if_pos (by omega), if_pos (by omega)]
      by_cases e1 : (rd_T66 P a).f1 = i
      · rw [if_pos e1, if_pos (by omega)]
        simp only [hayloftref13_covered.j2]
        by_cases e2 : (rd_T66 P b).f1 = i
        · rw [if_pos (by simpa using e2), if_pos h0, if_pos h1, if_pos (by omega), if_pos (by omega), if_pos (by omega), if_pos (by omega), h2 q (by omega)]
          simp only [Option.bind_some]
          rw [if_neg (by simpa [e1, e2] using hp), w64 b (by omega)]
          exact hK q (by omega)
        · rw [if_neg (by simpa using e2), w64 b (by omega)]
          exact hK q (by omega)
      · rw [if_neg e1]
        simp only [hayloftref13_covered.j2]
        rw [if_neg (by decide), w64 b (by omega)]
        exact hK q (by omega)
    · intro b hb hp
      obtain ⟨K2, h2⟩ := all_ev (rd_T79 T i).f0 (rd_T79 T i).f1 (rd_T66 P a).f0 (rd_T66 P a).f1 (rd_T66 P a).f2 (rd_T66 P a).f3 (rd_T66 P a).f4 (rd_T66 P a).f5 (rd_T66 P b).f0 (rd_T66 P b).f1 (rd_T66 P b).f2 (rd_T66 P b).f3 (rd_T66 P b).f4 (rd_T66 P b).f5 (hls a ha) (hls b hb) hcs
      dsimp only at h2
      simp only [Bool.and_eq_true, decide_eq_true_eq] at hp
      obtain ⟨⟨e1, e2⟩, e3⟩ := hp
      refine ev_succ ⟨K2 + 1, fun q hq => ?_⟩
      obtain ⟨q, rfl⟩ : ∃ m, q = m + 1 := ⟨q - 1, by omega⟩
      simp only [hayloftref13_covered.l1]
      rw [if_pos (by omega), if_pos (by omega), if_pos (by omega), if_pos e1, if_pos (by omega)]
      simp only [hayloftref13_covered.j2]
      rw [if_pos (by simpa using e2), if_pos h0, if_pos h1, if_pos (by omega), if_pos (by omega), if_pos (by omega), if_pos (by omega), h2 q (by omega)]
      simp only [Option.bind_some]
      rw [if_pos e3]
    · intro hany
      obtain ⟨K, hK⟩ := hr hany
      exact ev_succ ⟨K, fun q hq => by
        simp only [hayloftref13_covered.l1]
        rw [if_neg (by omega), w64 a (by omega)]
        exact hK q hq⟩
  have h := loop_any (fun q a => hayloftref13_covered.l0 q i (a : Int) n s k T P)
    (fun a => anyB (fun b => decide ((rd_T66 P a).f1 = i) && decide ((rd_T66 P b).f1 = i) && coversB (rd_T79 T i).f1 ((rd_T66 P a).f2 ++ (rd_T66 P b).f2)) P.length) P.length true false ?_ ?_ ?_
  · rw [ite_tf] at h
    exact h
  · intro a ha hp r hr
    have hx := hin a ha r (fun _ => hr)
    rw [if_neg (by rw [hp]; decide)] at hx
    obtain ⟨K, hK⟩ := hx
    exact ev_succ ⟨K, fun q hq => by
      simp only [hayloftref13_covered.l0]
      rw [if_pos (by omega)]
      exact hK q hq⟩
  · intro a ha hp
    have hx := hin a ha true (fun h => by rw [h] at hp; cases hp)
    rw [if_pos hp] at hx
    obtain ⟨K, hK⟩ := hx
    exact ev_succ ⟨K, fun q hq => by
      simp only [hayloftref13_covered.l0]
      rw [if_pos (by omega)]
      exact hK q hq⟩
  · exact ev_succ ⟨0, fun q hq => by
      simp only [hayloftref13_covered.l0]
      rw [if_neg (by omega)]⟩
theorem tmod_small (b sh n : Int) (j : Nat) (hb : 0 ≤ b) (hb' : b < 8) (hs : 0 ≤ sh) (hs' : sh < 8) (hj : j < 8) (hn : 1 ≤ n) (hn' : n ≤ 8) :
    Int.tmod (wrap64 (wrap64 (b + sh) + (j : Int))) n = (b + sh + (j : Int)) % n := by
  have e1 : wrap64 (b + sh) = b + sh := by unfold wrap64; omega
  have e2 : wrap64 (b + sh + (j : Int)) = b + sh + (j : Int) := by unfold wrap64; omega
  rw [e1, e2, Int.tmod_eq_emod_of_nonneg (by omega)]
theorem inRange_iff {s : Int} {P : List S66} {a b : Int} : inRange s P a b = true ↔ 0 ≤ a ∧ a < P.length ∧ 0 ≤ b ∧ b < s := by simp [inRange, and_assoc]
theorem nodes13_ev (n s k : Int) (T : List S79) (P : List S66) (g : Good n s k P) (a b : Int) : Ev (fun q => hayloftref13_Nodes.f q n s k T P a b) (nodesL n s k P a b) := by
  have hT : ∀ c : Bool, c = true → Ev (fun q => hayloftref13_Nodes.j0 q c n s k T P a b) ([] : List Int) := fun c hc => ev_succ ⟨0, fun q _ => by simp only [hayloftref13_Nodes.j0]; rw [if_pos hc]⟩
  have hT' : ¬ inRange s P a b = true → nodesL n s k P a b = [] := fun h => by unfold nodesL; rw [if_neg h]
  unfold hayloftref13_Nodes.f
  by_cases c1 : a < 0
  · rw [hT' (by rw [inRange_iff]; omega)]; simp only [if_pos c1]; exact hT _ rfl
  simp only [if_neg c1]
  by_cases c2 : a ≥ (P.length : Int)
  · rw [hT' (by rw [inRange_iff]; omega)]; simp only [if_pos c2]; exact hT _ rfl
  simp only [if_neg c2]
  by_cases c3 : b < 0
  · rw [hT' (by rw [inRange_iff]; omega)]; simp only [if_pos c3]; exact hT _ rfl
  simp only [if_neg c3]
  by_cases c4 : b ≥ s
  · rw [hT' (by rw [inRange_iff]; omega)]; exact hT _ (by simpa using c4)
  have hr : inRange s P a b = true := by rw [inRange_iff]; omega
  have hsh := g.hsh a (by omega) (by omega)
  obtain ⟨gn, gk, gs, gP⟩ := (⟨g.hn, g.hk, g.hs, g.hP⟩ : (1 ≤ n ∧ n ≤ 8) ∧ (0 ≤ k ∧ k < n) ∧ (1 ≤ s ∧ s ≤ 8) ∧ P.length ≤ 8)
  have h := loop_fold (fun q l i => hayloftref13_Nodes.l0 q l (i : Int) n s k T P a b) (fun i => (List.range i).map fun (j : Nat) => (b + (rd_T66 P a).f5 + (j : Int)) % n) (k + 1).toNat (nodesL n s k P a b)
    (fun i hi ⟨K, hK⟩ => ev_succ ⟨K, fun q hq => by
      simp only [hayloftref13_Nodes.l0]
      rw [if_pos (by omega), if_pos (by omega), if_pos (by omega), if_neg (by omega), if_pos (by simp; omega), w64 i (by omega), tmod_small b _ n i (by omega) (by omega) (by omega) (by omega) (by omega) (by omega) (by omega)]
      have := hK q hq
      rw [List.range_succ, List.map_append] at this
      exact this⟩)
    (ev_succ ⟨0, fun q _ => by
      simp only [hayloftref13_Nodes.l0]
      rw [if_neg (by omega)]
      unfold nodesL
      rw [if_pos hr]⟩)
  obtain ⟨K, hK⟩ := h
  exact ev_succ ⟨K, fun q hq => by
    simp only [hayloftref13_Nodes.j0]
    rw [if_neg (by simpa using c4)]
    exact hK q hq⟩
theorem nodes_ev (n s k : Int) (T : List S79) (P : List S66) (g : Good n s k P) (a b : Int) : Ev (fun q => catalog_Nodes.f q n s k T P a b) (nodesL n s k P a b) := by
  have hT : ∀ c : Bool, c = true → Ev (fun q => catalog_Nodes.j0 q c n s k T P a b) ([] : List Int) := fun c hc => ev_succ ⟨0, fun q _ => by simp only [catalog_Nodes.j0]; rw [if_pos hc]⟩
  have hT' : ¬ inRange s P a b = true → nodesL n s k P a b = [] := fun h => by unfold nodesL; rw [if_neg h]
  unfold catalog_Nodes.f
  by_cases c1 : a < 0
  · rw [hT' (by rw [inRange_iff]; omega)]; simp only [if_pos c1]; exact hT _ rfl
  simp only [if_neg c1]
  by_cases c2 : a ≥ (P.length : Int)
  · rw [hT' (by rw [inRange_iff]; omega)]; simp only [if_pos c2]; exact hT _ rfl
  simp only [if_neg c2]
  by_cases c3 : b < 0
  · rw [hT' (by rw [inRange_iff]; omega)]; simp only [if_pos c3]; exact hT _ rfl
  simp only [if_neg c3]
  by_cases c4 : b ≥ s
  · rw [hT' (by rw [inRange_iff]; omega)]; simp only [if_pos c4]; exact hT _ rfl
  simp only [if_neg c4]
  have hr : inRange s P a b = true := by rw [inRange_iff]; omega
  have hsh := g.hsh a (by omega) (by omega)
  obtain ⟨gn, gk, gs, gP⟩ := (⟨g.hn, g.hk, g.hs, g.hP⟩ : (1 ≤ n ∧ n ≤ 8) ∧ (0 ≤ k ∧ k < n) ∧ (1 ≤ s ∧ s ≤ 8) ∧ P.length ≤ 8)
  have ek : wrap64 (k + 1) = k + 1 := by unfold wrap64; omega
  have h := loop_fold (fun q l i => catalog_Nodes.l0 q l (wrap64 (k + 1)) (i : Int) n s k T P a b) (fun i => (List.range i).map fun (j : Nat) => (b + (rd_T66 P a).f5 + (j : Int)) % n) (k + 1).toNat (nodesL n s k P a b)
    (fun i hi ⟨K, hK⟩ => ev_succ ⟨K, fun q hq => by
      simp only [catalog_Nodes.l0]
      rw [if_pos (by omega), if_pos (by omega), if_pos (by omega), if_neg (by omega), if_pos (by simp; omega), w64 i (by omega), tmod_small b _ n i (by omega) (by omega) (by omega) (by omega) (by omega) (by omega) (by omega)]
      have := hK q hq
      rw [List.range_succ, List.map_append] at this
      exact this⟩)
    (ev_succ ⟨0, fun q _ => by
      simp only [catalog_Nodes.l0]
      rw [if_neg (by omega)]
      unfold nodesL
      rw [if_pos hr]⟩)
  obtain ⟨K, hK⟩ := h
  exact ev_succ ⟨K, fun q hq => by
    simp only [catalog_Nodes.j0]
    rw [if_neg (by simp; omega)]
    exact hK q hq⟩
end Go.Proofs.Ytnaaaldeadjohaa.Cat
