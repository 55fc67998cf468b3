import Derived.Test.YtnaaaldeadjohaaPCatalogLiesx2
import Derived.Test.YtnaaaldeadjohaaPCatalogLiesx4
import Derived.Test.YtnaaaldeadjohaaPCatalogLiesx5
import Derived.Test.YtnaaaldeadjohaaPCatalogLiesx6
import Derived.Test.YtnaaaldeadjohaaPCatalogLiesx9
import Derived.Test.YtnaaaldeadjohaaPCatalogLiesx10
import Derived.Test.YtnaaaldeadjohaaPCatalogLiesx12
set_option linter.unusedVariables false
set_option linter.unusedSimpArgs false
namespace Go.Proofs.Ytnaaaldeadjohaa.Cat
open Go.RowKit Go.Proofs.YtnaaaldeadjohaaW.PrintWords Go.Proofs.Ytnaaaldeadjohaa.PCatalogLies

/-! ### What the catalog's functions come to -/
def allB (p : Nat → Bool) (n : Nat) : Bool := (List.range n).all p
def anyB (p : Nat → Bool) (n : Nat) : Bool := (List.range n).any p
theorem allB_iff {p : Nat → Bool} {n : Nat} : allB p n = true ↔ ∀ i, i < n → p i = true := by simp [allB]
theorem anyB_iff {p : Nat → Bool} {n : Nat} : anyB p n = true ↔ ∃ i, i < n ∧ p i = true := by simp [anyB]
theorem allB_no {p : Nat → Bool} {n i : Nat} (h : i < n) (hp : p i = false) : allB p n = false := by
  cases e : allB p n
  · rfl
  · rw [allB_iff.1 e i h] at hp; cases hp
theorem anyB_no {p : Nat → Bool} {n : Nat} (h : ∀ i, i < n → p i = false) : anyB p n = false := by
  cases e : anyB p n
  · rfl
  · obtain ⟨i, hi, hp⟩ := anyB_iff.1 e
    rw [h i hi] at hp; cases hp
theorem anyB_yes {p : Nat → Bool} {n i : Nat} (h : i < n) (hp : p i = true) : anyB p n = true := anyB_iff.2 ⟨i, h, hp⟩

def namedB (s : ByteArray) : Bool := decide (1 ≤ s.size) && decide (s.size ≤ 64)
def plOk (l : List Int) (m : Int) : Bool := allB (fun i => decide (0 ≤ rd l i) && decide (rd l i < m) && !((l.take i).contains (rd l i))) l.length
def colOk (cs : List S76) (i : Nat) : Bool := namedB (rd_T76 cs i).f0 && decide (1 ≤ (rd_T76 cs i).f1) && decide ((rd_T76 cs i).f1 ≤ 3) && !(anyB (fun j => decide ((rd_T76 cs j).f0.toList = (rd_T76 cs i).f0.toList)) i)
def tabOk (nm : ByteArray) (cs : List S76) : Bool := namedB nm && decide (1 ≤ cs.length) && decide (cs.length ≤ 8) && allB (colOk cs) cs.length
def projOk (n : Int) (T : List S79) (p : S66) : Bool :=
  namedB p.f0 && decide (0 ≤ p.f1) && decide (p.f1 < T.length) && decide (p.f2.length ≠ 0) && decide (0 ≤ p.f5) && decide (p.f5 < n) &&
    plOk p.f2 (rd_T79 T p.f1).f1.length && plOk p.f3 (rd_T79 T p.f1).f1.length && p.f2.contains p.f4 && p.f3.all (fun x => p.f2.contains x)
def coversB (cs : List S76) (l : List Int) : Bool := allB (fun i => l.contains (i : Int)) cs.length
def covB (T : List S79) (P : List S66) (i : Int) : Bool :=
  anyB (fun a => anyB (fun b => decide ((rd_T66 P a).f1 = i) && decide ((rd_T66 P b).f1 = i) && coversB (rd_T79 T i).f1 ((rd_T66 P a).f2 ++ (rd_T66 P b).f2)) P.length) P.length
def segsL (s : Int) (P : List S66) : List S31 := (List.range P.length).flatMap fun (p : Nat) => (List.range s.toNat).map fun (q : Nat) => (⟨(p : Int), (q : Int)⟩ : S31)
def inRange (s : Int) (P : List S66) (a b : Int) : Bool := decide (0 ≤ a) && decide (a < P.length) && decide (0 ≤ b) && decide (b < s)
def nodesL (n s k : Int) (P : List S66) (a b : Int) : List Int :=
  if inRange s P a b then (List.range (k + 1).toNat).map fun (j : Nat) => (b + (rd_T66 P a).f5 + (j : Int)) % n else []
def ofL (n s k : Int) (P : List S66) (node : Int) : List S31 := (segsL s P).filter fun at_ => (nodesL n s k P at_.f0 at_.f1).contains node
def liveB (live : List Bool) (m : Int) : Bool := decide (m < live.length) && rdOf false live m
def covered (n s k : Int) (P : List S66) (live : List Bool) : Bool := (segsL s P).all fun at_ => (nodesL n s k P at_.f0 at_.f1).any (liveB live)
def headOk (n s k : Int) : Bool := decide (1 ≤ n) && decide (n ≤ 8) && decide (0 ≤ k) && decide (k < n) && decide (1 ≤ s) && decide (s ≤ 8)
def tabsOk (T : List S79) : Bool := allB (fun i => tabOk (rd_T79 T i).f0 (rd_T79 T i).f1 && !(anyB (fun j => decide ((rd_T79 T j).f0.toList = (rd_T79 T i).f0.toList)) i)) T.length
def projsOk (n : Int) (T : List S79) (P : List S66) : Bool := allB (fun i => projOk n T (rd_T66 P i) && !(anyB (fun j => decide ((rd_T66 P j).f0.toList = (rd_T66 P i).f0.toList)) i)) P.length
def chk (n s k : Int) (T : List S79) (P : List S66) : Int :=
  if headOk n s k = false then 133
  else if (decide (1 ≤ T.length) && decide (T.length ≤ 4)) = false then 130
  else if tabsOk T = false then 130
  else if 8 < P.length then 131
  else if projsOk n T P = false then 131
  else if allB (fun i => covB T P i) T.length = false then 132
  else if allB (fun i => !(ofL n s k P i).isEmpty) n.toNat = false then 133 else 0

/-! ### Rounds -/
theorem ev_succ {α : Type} {g : Nat → Option α} {r : α} (h : ∃ K, ∀ k, K ≤ k → g (k + 1) = some r) : Ev g r := by
  obtain ⟨K, h⟩ := h
  refine ⟨K + 1, fun k hk => ?_⟩
  obtain ⟨k, rfl⟩ : ∃ m, k = m + 1 := ⟨k - 1, by omega⟩
  exact h k (by omega)
theorem w64 (i : Nat) (h : i < 9223372036854775807) : wrap64 ((i : Int) + 1) = ((i + 1 : Nat) : Int) := by
  unfold wrap64
  omega
theorem loop_all' {ρ : Type} (l : Nat → Nat → Option ρ) (p : Nat → Bool) (n : Nat) (rT rF : ρ)
    (h1 : ∀ i, i < n → p i = true → ∀ r, Ev (fun k => l k (i + 1)) r → Ev (fun k => l k i) r)
    (h2 : ∀ i, i < n → p i = false → Ev (fun k => l k i) rF) (h3 : allB p n = true → Ev (fun k => l k n) rT) : Ev (fun k => l k 0) (if allB p n = true then rT else rF) := by
  have key : ∀ d i, i + d = n → (∀ j, j < i → p j = true) → Ev (fun k => l k i) (if allB p n = true then rT else rF) := by
    intro d
    induction d with
    | zero =>
      intro i hi hb
      obtain rfl : i = n := by omega
      rw [if_pos (allB_iff.2 hb)]
      exact h3 (allB_iff.2 hb)
    | succ d ih =>
      intro i hi hb
      cases hp : p i
      · rw [if_neg (by rw [allB_no (show i < n by omega) hp]; decide)]
        exact h2 i (by omega) hp
      · refine h1 i (by omega) hp _ (ih (i + 1) (by omega) fun j hj => ?_)
        rcases Nat.lt_or_ge j i with h | h
        · exact hb j h
        · obtain rfl : j = i := by omega
          exact hp
  exact key n 0 (by omega) (fun j hj => by omega)
theorem loop_all {ρ : Type} (l : Nat → Nat → Option ρ) (p : Nat → Bool) (n : Nat) (rT rF : ρ)
    (h1 : ∀ i, i < n → p i = true → ∀ r, Ev (fun k => l k (i + 1)) r → Ev (fun k => l k i) r)
    (h2 : ∀ i, i < n → p i = false → Ev (fun k => l k i) rF) (h3 : Ev (fun k => l k n) rT) : Ev (fun k => l k 0) (if allB p n = true then rT else rF) :=
  loop_all' l p n rT rF h1 h2 (fun _ => h3)
theorem anyB_not (p : Nat → Bool) (n : Nat) : anyB p n = !(allB (fun i => !p i) n) := by simp only [anyB, allB, List.any_eq_not_all_not]
theorem loop_any' {ρ : Type} (l : Nat → Nat → Option ρ) (p : Nat → Bool) (n : Nat) (rT rF : ρ)
    (h1 : ∀ i, i < n → p i = false → ∀ r, Ev (fun k => l k (i + 1)) r → Ev (fun k => l k i) r)
    (h2 : ∀ i, i < n → p i = true → Ev (fun k => l k i) rT) (h3 : anyB p n = false → Ev (fun k => l k n) rF) : Ev (fun k => l k 0) (if anyB p n = true then rT else rF) := by
  have h := loop_all' l (fun i => !p i) n rF rT (fun i hi hp => h1 i hi (by simpa using hp)) (fun i hi hp => h2 i hi (by simpa using hp)) (fun e => h3 (by rw [anyB_not, e]; rfl))
  rw [anyB_not]
  cases ha : allB (fun i => !p i) n <;> simpa [ha] using h
theorem loop_any {ρ : Type} (l : Nat → Nat → Option ρ) (p : Nat → Bool) (n : Nat) (rT rF : ρ)
    (h1 : ∀ i, i < n → p i = false → ∀ r, Ev (fun k => l k (i + 1)) r → Ev (fun k => l k i) r)
    (h2 : ∀ i, i < n → p i = true → Ev (fun k => l k i) rT) (h3 : Ev (fun k => l k n) rF) : Ev (fun k => l k 0) (if anyB p n = true then rT else rF) :=
  loop_any' l p n rT rF h1 h2 (fun _ => h3)
/-- What gathers. -/
theorem loop_fold {ρ σ : Type} (l : Nat → σ → Nat → Option ρ) (st : Nat → σ) (n : Nat) (r : ρ)
    (h1 : ∀ i, i < n → Ev (fun k => l k (st (i + 1)) (i + 1)) r → Ev (fun k => l k (st i) i) r) (h3 : Ev (fun k => l k (st n) n) r) : Ev (fun k => l k (st 0) 0) r := by
  have key : ∀ d i, i + d = n → Ev (fun k => l k (st i) i) r := by
    intro d
    induction d with
    | zero => intro i hi; obtain rfl : i = n := by omega
              exact h3
    | succ d ih => intro i hi; exact h1 i (by omega) (ih (i + 1) (by omega))
  exact key n 0 (by omega)

/-! ### The printed functions -/
theorem rd_nat (l : List Int) (i : Nat) (h : i < l.length) : rd l i = l[i] := by simp [rd, List.getD_eq_getElem?_getD, h]
theorem named_f (s : ByteArray) : value_named.f s = some (namedB s) := by
  unfold value_named.f namedB
  by_cases h : (s.size : Int) ≥ 1
  · rw [if_pos h, decide_eq_true (show 1 ≤ s.size by omega), Bool.true_and]
    exact congrArg some (decide_eq_decide.2 (by omega))
  · rw [if_neg h, decide_eq_false (show ¬ 1 ≤ s.size by omega), Bool.false_and]
theorem named2_f (s : ByteArray) : hayloftref02_named.f s = some (namedB s) := by
  unfold hayloftref02_named.f namedB
  by_cases h : (s.size : Int) > 0
  · rw [if_pos h, decide_eq_true (show 1 ≤ s.size by omega), Bool.true_and]
    exact congrArg some (decide_eq_decide.2 (by omega))
  · rw [if_neg h, decide_eq_false (show ¬ 1 ≤ s.size by omega), Bool.false_and]
theorem contains_any (l : List Int) (x : Int) : l.contains x = anyB (fun i => decide (rd l i = x)) l.length := by
  rw [Bool.eq_iff_iff, anyB_iff]
  simp only [List.contains_iff_mem, List.mem_iff_getElem, decide_eq_true_eq]
  exact ⟨fun ⟨i, h, e⟩ => ⟨i, h, by rw [rd_nat l i h]; exact e⟩, fun ⟨i, h, e⟩ => ⟨i, h, by rw [rd_nat l i h] at e; exact e⟩⟩
theorem in_ev (l : List Int) (x : Int) (hl : l.length ≤ 9223372036854775807) : Ev (fun k => hayloftref13_In.f k l x) (l.contains x) := by
  have h := loop_any (fun k i => hayloftref13_In.l0 k l x (i : Int)) (fun i => decide (rd l i = x)) l.length true false
    (fun i hi hp r ⟨K, hK⟩ => ev_succ ⟨K, fun k hk => by
      simp only [hayloftref13_In.l0]
      rw [if_pos (by omega), if_pos (by omega), if_neg (by simpa using hp), w64 i (by omega)]
      exact hK k hk⟩)
    (fun i hi hp => ev_succ ⟨0, fun k hk => by
      simp only [hayloftref13_In.l0]
      rw [if_pos (by omega), if_pos (by omega), if_pos (by simpa using hp)]⟩)
    (ev_succ ⟨0, fun k hk => by
      simp only [hayloftref13_In.l0]
      rw [if_neg (by omega)]⟩)
  rw [contains_any]
  simpa [hayloftref13_In.f] using h
theorem contains_ev (l : List Int) (x : Int) (hl : l.length ≤ 9223372036854775807) : Ev (fun k => slices_Contains_int_int.f k l x) (l.contains x) := by
  have h : Ev (fun k => (slices_Index_int_int.f k l x).bind fun t => some (decide (t ≥ 0))) (if anyB (fun i => decide (rd l i = x)) l.length = true then true else false) := by
    refine loop_any (fun k i => (slices_Index_int_int.l0 k l x (l.length : Int) (i : Int)).bind fun t => some (decide (t ≥ 0))) (fun i => decide (rd l i = x)) l.length true false
      (fun i hi hp r ⟨K, hK⟩ => ev_succ ⟨K, fun k hk => by
        simp only [slices_Index_int_int.l0]
        rw [if_pos (by omega), if_pos (by omega), if_pos (by omega), if_neg (by simp at hp; exact fun e => hp e.symm), w64 i (by omega)]
        exact hK k hk⟩)
      (fun i hi hp => ev_succ ⟨0, fun k hk => by
        simp only [slices_Index_int_int.l0]
        rw [if_pos (by omega), if_pos (by omega), if_pos (by omega), if_pos (by simp at hp; exact hp.symm)]
        simp⟩)
      (ev_succ ⟨0, fun k hk => by
        simp only [slices_Index_int_int.l0]
        rw [if_neg (by omega)]
        simp⟩)
  rw [contains_any]
  simpa [slices_Contains_int_int.f] using h
end Go.Proofs.Ytnaaaldeadjohaa.Cat
