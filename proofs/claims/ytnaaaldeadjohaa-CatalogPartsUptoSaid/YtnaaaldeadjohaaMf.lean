import Derived.Deep.RegionHeld3
import Derived.StillTail
import Derived.Test.YtnaaaldeadjohaaMe
import Derived.Deep.RegionLaw
import Derived.Deep.AppendLies
namespace Go
section
variable {P : Program} {md : Region.Mode}
/-- The same at each exit but the normal one. -/
theorem upon_exits {o : Oper} {a : Act} {K K' : Act → World → Prop} {Q Q' : Exit → Act → World → Prop} (hK : ∀ a w, K a w → K' a w) (h : ∀ e a w, e ≠ .normal → Q e a w → Q' e a w) : ∀ r, o.upon P a K Q r → o.upon P a K' Q' r := by
  have hL : LetsOut Q → LetsOut Q' := fun ⟨a, w, hq⟩ => ⟨a, w, h _ _ _ (by intro e; cases e) hq⟩
  intro r hr
  unfold Oper.upon at *
  split at hr
  · exact hK _ _ hr
  · exact hK _ _ hr
  · exact hK _ _ hr
  · refine hr.mono fun e w'' he => ?_
    cases e with
    | returned v => exact hK _ _ he
    | panicked c => exact h _ _ _ (by intro e; cases e) he
    | outgrown => exact hL he
  · exact Rows.mono hr fun v w'' hv => hK _ _ hv
  · exact h _ _ _ (by intro e; cases e) hr
  · exact hr.elim
theorem wpOp_exits {ops : Array Oper} {i : Nat} {a : Act} {w : World} {K K' : Act → World → Prop} {Q Q' : Exit → Act → World → Prop} (hK : ∀ a w, K a w → K' a w) (h : ∀ e a w, e ≠ .normal → Q e a w → Q' e a w) (hw : wpOp P ops Q i K a w) : wpOp P ops Q' i K' a w := by
  have hL : LetsOut Q → LetsOut Q' := fun ⟨a, w, hq⟩ => ⟨a, w, h _ _ _ (by intro e; cases e) hq⟩
  unfold wpOp at *
  cases ho : ops[i]? with
  | none => simp only [ho] at hw ⊢; exact hK _ _ hw
  | some o =>
    simp only [ho] at hw ⊢
    by_cases hh : Region.wanted o (yielded ops a.tmps) = true
    · rw [if_pos hh] at hw ⊢
      exact hw.imp (fun x => upon_exits hK h _ x) (fun x => ⟨x.1, hL x.2⟩)
    · rw [if_neg hh] at hw ⊢
      exact hK _ _ hw
theorem wpAny_of_sink {ops opsN : Array Oper} {m : Nat} {Q : Exit → Act → World → Prop} {S : World → Prop}
    (hsame : ∀ i, i ≠ m → opsN[i]? = ops[i]?) (hready : ∀ listed, Region.ready md opsN listed = Region.ready md ops listed) (hy : ∀ tmps, yielded opsN tmps = yielded ops tmps)
    (hnoop : ∀ Q a w K, wpOp P opsN Q m K a w → K a w)
    (hms : ops.size = m + 1) (hlast : ∀ listed, HeadInv md ops m listed → m ∈ Region.ready md ops listed → Region.ready md ops (listed.setIfInBounds m true) = [])
    (hmore : ∀ listed : Array Bool, listed.size = ops.size → listed.getD m true = false → Region.ready md ops listed ≠ []) :
    ∀ (fuel : Nat) (listed : Array Bool) (a : Act) (w : World), HeadInv md ops m listed →
      wpAnyH P md opsN (fun e a w => (e = .normal → wpOp P ops Q m (fun a w => Q .normal a w) a w) ∧ (e ≠ .normal → Q e a w)) S fuel listed a w → wpAny P md ops Q fuel listed a w
  | 0, listed, a, w, inv, h => absurd ((hready listed) ▸ h.1) (hmore listed inv.size (inv.tail m (Nat.le_refl _) (by omega)))
  | fuel + 1, listed, a, w, inv, h => by
    refine ⟨fun h0 => absurd h0 (hmore listed inv.size (inv.tail m (Nat.le_refl _) (by omega))), fun i hi => ?_⟩
    have h2 := h.2 i (by rw [hready]; exact hi)
    by_cases e : i = m
    · subst e
      have h3 := (hnoop _ _ _ _ h2).2
      have hr := hlast listed inv hi
      have h4 : wpOp P ops Q i (fun a w => Q .normal a w) a w := by
        cases fuel with
        | zero => exact h3.2.1 rfl
        | succ f => exact (h3.1 (by rw [hready]; exact hr)).1 rfl
      refine wpOp_mono (fun a' w' hq => ?_) h4
      cases fuel with
      | zero => exact ⟨hr, hq⟩
      | succ f => exact ⟨fun _ => hq, fun j hj => by rw [hr] at hj; cases hj⟩
    · have h5 : wpOp P ops (fun e a w => (e = .normal → wpOp P ops Q m (fun a w => Q .normal a w) a w) ∧ (e ≠ .normal → Q e a w)) i (fun a' w' => S w' ∧ wpAnyH P md opsN (fun e a w => (e = .normal → wpOp P ops Q m (fun a w => Q .normal a w) a w) ∧ (e ≠ .normal → Q e a w)) S fuel (listed.setIfInBounds i true) a' w') a w := by
        unfold wpOp at h2 ⊢
        rw [hsame i e, hy] at h2
        exact h2
      exact wpOp_exits (fun a' w' hk => wpAny_of_sink hsame hready hy hnoop hms hlast hmore fuel _ a' w' (inv.set hi (by obtain ⟨_, oi, hoi, _⟩ := mem_ready.1 hi; have := (Array.getElem?_eq_some_iff.1 hoi).1; omega)) hk.2) (fun e a w he hq => hq.2 he) h5
/-- The region's own: its last operation waits for all others; a harmless one stands in its place while the orders are walked. -/
theorem ready_of_after {ops opsN : Array Oper} (hs : opsN.size = ops.size) (ha : ∀ i : Nat, (opsN[i]?).map (fun o : Oper => o.after) = (ops[i]?).map (fun o : Oper => o.after)) (listed : Array Bool) : Region.ready md opsN listed = Region.ready md ops listed := by
  unfold Region.ready
  rw [hs]
  refine List.filter_congr fun i _ => ?_
  have h := ha i
  cases h1 : opsN[i]? with
  | none => rw [h1] at h; cases h2 : ops[i]? with
    | none => rfl
    | some o => rw [h2] at h; cases h
  | some oN => rw [h1] at h; cases h2 : ops[i]? with
    | none => rw [h2] at h; cases h
    | some o => rw [h2] at h; simp only [Option.map_some, Option.some.injEq] at h; simp [h]
theorem last_of_sink {ops : Array Oper} {m : Nat} (hsz : ops.size = m + 1) (hs : Region.sinkB md ops m = true) (hc : Region.chainB md ops m = true) (listed : Array Bool) (inv : HeadInv md ops m listed) (h : m ∈ Region.ready md ops listed) :
    Region.ready md ops (listed.setIfInBounds m true) = [] := by
  refine List.eq_nil_iff_forall_not_mem.2 fun j hj => ?_
  obtain ⟨hj1, oj, hoj, _⟩ := mem_ready.1 hj
  have hjs : j < ops.size := (Array.getElem?_eq_some_iff.1 hoj).1
  have hls := inv.size
  by_cases e : m = j
  · subst e
    simp [show m < listed.size by omega] at hj1
  · rw [getD_set_ne true e] at hj1
    exact tail_waits hs hc (by omega) inv _ j rfl (by omega) hj1 m (Nat.le_refl _) h
theorem more_of_acyclic {ops : Array Oper} {m : Nat} (hac : ∀ j oj, ops[j]? = some oj → ∀ e : Edge, e ∈ oj.after → e.on < j) (hm : m < ops.size) (listed : Array Bool) (hs : listed.size = ops.size) (h : listed.getD m true = false) : Region.ready md ops listed ≠ [] := by
  have key : ∀ j, j < ops.size → listed.getD j true = false → ∃ i, i ∈ Region.ready md ops listed := by
    intro j
    induction j using Nat.strongRecOn with
    | _ j ih =>
      intro hj hl
      by_cases hq : ∃ e : Edge, e ∈ (ops[j]'hj).after ∧ Region.binds md e = true ∧ listed.getD e.on false = false
      · obtain ⟨e, he, _, hf⟩ := hq
        have hlt := hac j _ (Array.getElem?_eq_getElem hj) e he
        exact ih e.on hlt (by omega) (by simp [show e.on < listed.size by omega] at hf ⊢; exact hf)
      · refine ⟨j, mem_ready.2 ⟨hl, _, Array.getElem?_eq_getElem hj, fun e he hb => ?_⟩⟩
        cases hh : listed.getD e.on false
        · exact absurd ⟨e, he, hb, hh⟩ hq
        · rfl
  obtain ⟨i, hi⟩ := key m hm h
  intro e0
  rw [e0] at hi
  cases hi
/-- A harmless operation in the place of the last one. -/
def harmless (o : Oper) : Oper := { o with op := .assign (.const (.bool false)) }
theorem modify_get (ops : Array Oper) (m i : Nat) : (ops.modify m harmless)[i]? = if m = i then (ops[i]?).map harmless else ops[i]? := by
  rw [Array.getElem?_modify]
theorem wp_region_sink {id : Nat} {ops : Array Oper} {m : Nat} {o : Oper} {Q : Exit → Act → World → Prop} {S : World → Prop} {a : Act} {w : World} (hmo : P.follows .mixedOrders = true)
    (ho : ops[m]? = some o) (hd : o.dst = none) (hg : o.guard = none) (hsz : ops.size = m + 1) (hs : Region.sinkB .any ops m = true) (hc : Region.chainB .any ops m = true) (hac : ∀ j oj, ops[j]? = some oj → ∀ e : Edge, e ∈ oj.after → e.on < j)
    (h : wpAnyH P .any (ops.modify m harmless) (fun e a w => (e = .normal → wpOp P ops Q m (fun a w => Q .normal a w) a w) ∧ (e ≠ .normal → Q e a w)) S ops.size (Array.replicate ops.size false) a w.drew) : (Code.region id ops true).wp P Q a w := by
  refine wp_region_any hmo ?_
  refine wpAny_of_sink (opsN := ops.modify m harmless) (m := m) (S := S) (fun i hi => by rw [modify_get, if_neg (fun e => hi e.symm)]) ?_ ?_ ?_ hsz (fun l inv hl => last_of_sink hsz hs hc l inv hl) (fun l hs hl => more_of_acyclic hac (by omega) l hs hl) ops.size _ a _ ⟨by simp, fun j oj hj hl => (by rw [getD_replicate_false] at hl; cases hl), fun t _ ht => (by simp [ht])⟩ h
  · intro l
    refine ready_of_after (by simp) (fun i => ?_) l
    rw [modify_get]
    split
    · cases ops[i]? <;> rfl
    · rfl
  · intro t
    funext j
    have e1 : ((ops.modify m harmless)[j]?).bind (fun o : Oper => o.dst) = (ops[j]?).bind (fun o : Oper => o.dst) := by
      rw [modify_get]
      split
      · cases ops[j]? <;> rfl
      · rfl
    unfold yielded
    rw [e1]
  · intro Q a w K hh
    unfold wpOp at hh
    rw [modify_get, if_pos rfl, ho] at hh
    simp only [Option.map_some] at hh
    rw [if_pos (by simp [Region.wanted, harmless, hg])] at hh
    rcases hh with hh | hh
    · unfold Oper.wp at hh
      simpa [execOp, harmless, Oper.upon, Act.put, hd, Act.eval] using hh
    · have := hh.1
      simp [Oper.asks, harmless, execOp, Act.eval] at this
      rw [show Sem.events P (pure (Next.value (Value.bool false))) w #[] = #[] from rfl] at this
      simp at this
/-- The same, its two premises as checks. -/
theorem wp_region_sinkB {id : Nat} {ops : Array Oper} (m : Nat) {o : Oper} {Q : Exit → Act → World → Prop} (S : World → Prop) {a : Act} {w : World} (hmo : P.follows .mixedOrders = true)
    (ho : ops[m]? = some o) (hd : o.dst = none) (hg : o.guard = none) (hsz : ops.size = m + 1) (hs : Region.sinkB .any ops m = true) (hc : Region.chainB .any ops m = true)
    (hac : ((List.range ops.size).all fun j => ((ops[j]?).map fun oj : Oper => oj.after.toList.all fun e : Edge => decide (e.on < j)).getD true) = true)
    (h : wpAnyH P .any (ops.modify m harmless) (fun e a w => (e = .normal → wpOp P ops Q m (fun a w => Q .normal a w) a w) ∧ (e ≠ .normal → Q e a w)) S ops.size (Array.replicate ops.size false) a w.drew) : (Code.region id ops true).wp P Q a w := by
  refine wp_region_sink hmo ho hd hg hsz hs hc (fun j oj hj e he => ?_) h
  · rw [List.all_eq_true] at hac
    have hjs : j < ops.size := (Array.getElem?_eq_some_iff.1 hj).1
    have := hac j (List.mem_range.2 hjs)
    rw [hj] at this
    simp only [Option.map_some, Option.getD_some] at this
    rw [List.all_eq_true] at this
    exact of_decide_eq_true (this e (Array.mem_toList_iff.2 he))
end
end Go

set_option linter.unusedVariables false
set_option linter.unusedSimpArgs false
namespace Go.Proofs.Ytnaaaldeadjohaa.Cat
open Go.RowKit Go.Shelf Go.Proofs Go.Proofs.YtnaaaldeadjohaaW.PrintWords Go.Proofs.Ytnaaaldeadjohaa.PCatalogLies
/-! ### For each row, for each of its projections, at each node: catalog.Parts' inner function -/
structure Do where
  node : Nat
  at_ : S31
  x : S57
section
variable (n s k : Int) (P : List S66)
def doAt (x : S57) (p : Nat) (m : Int) : Do := ⟨m.toNat, whereS s P x.f2 p, x⟩
def nodesAt (x : S57) (p : Nat) : List Int := nodesL n s k P (whereS s P x.f2 p).f0 (whereS s P x.f2 p).f1
def eachOne (x : S57) (p : Nat) : List Do := if (rd_T66 P p).f1 = x.f0 then (nodesAt n s k P x p).map (doAt s P x p) else []
def eachX (x : S57) (p : Nat) : List Do := (List.range p).flatMap (eachOne n s k P x)
def eachAll (xs : List S57) : List Do := xs.flatMap fun x => eachX n s k P x P.length
theorem eachX_succ (x : S57) (p : Nat) : eachX n s k P x (p + 1) = eachX n s k P x p ++ eachOne n s k P x p := by
  unfold eachX; rw [List.range_succ, List.flatMap_append]; simp
theorem eachX_len (x : S57) {p q : Nat} (h : p ≤ q) : (eachX n s k P x p).length ≤ (eachX n s k P x q).length := by
  induction q with
  | zero => have : p = 0 := by omega
            subst this; exact Nat.le_refl _
  | succ q ih =>
    by_cases e : p = q + 1
    · subst e; exact Nat.le_refl _
    · rw [eachX_succ, List.length_append]; have := ih (by omega); omega
theorem eachAll_succ {xs : List S57} {i : Nat} (hi : i < xs.length) : eachAll n s k P (xs.take (i + 1)) = eachAll n s k P (xs.take i) ++ eachX n s k P xs[i] P.length := by
  unfold eachAll; rw [List.take_succ_eq_append_getElem hi, List.flatMap_append]; simp
theorem eachAll_len (xs : List S57) (i : Nat) : (eachAll n s k P (xs.take i)).length ≤ (eachAll n s k P xs).length := by
  have h : eachAll n s k P xs = eachAll n s k P (xs.take i) ++ eachAll n s k P (xs.drop i) := by
    unfold eachAll; rw [← List.flatMap_append, List.take_append_drop]
  rw [h, List.length_append]; omega
end
/-- Boxes of these types are kept. -/
def KeepT (W W' : World) : Prop := W.heap.size ≤ W'.heap.size ∧ ∀ (b : Nat) (cs : Array Value) (t : TypeId), W.heap[b]? = some (.cells cs t (0, 0)) → (t = 3 ∨ t = 31 ∨ t = 56 ∨ t = 66) → W'.heap[b]? = some (.cells cs t (0, 0))
theorem KeepT.refl (W : World) : KeepT W W := ⟨Nat.le_refl _, fun _ _ _ h _ => h⟩
theorem KeepT.trans {A B D : World} (h : KeepT A B) (g : KeepT B D) : KeepT A D := ⟨Nat.le_trans h.1 g.1, fun b cs t hb ht => g.2 b cs t (h.2 b cs t hb ht) ht⟩
theorem KeepT.below {W W' : World} (h : Below W.heap.size W W') : KeepT W W' := ⟨h.size, fun b cs t hb _ => blk_below hb h⟩
theorem KeepT.grown {W W' : World} {b e z n : Nat} {v : Value} {xs : List Value} (ho : W.ownsRow b e z v n xs) (hne : ∀ t, (t = 3 ∨ t = 31 ∨ t = 56 ∨ t = 66) → e ≠ t) (hg : W.grownBy W' v.ownBlock) : KeepT W W' :=
  ⟨hg.size, fun c cs t hc ht => blk_grown hc hg (own_ne ho hc (hne t ht))⟩
theorem KeepT.set {W : World} {G t0 : Nat} {cs0 : Array Value} (hG : W.heap[G]? = some (.cells cs0 t0 (0, 0))) (hne : ∀ t, (t = 3 ∨ t = 31 ∨ t = 56 ∨ t = 66) → t ≠ t0) (i : Nat) (u : Value) : KeepT W (W.setCell ⟨G, i, none⟩ u) :=
  ⟨by simp, fun c cs t hc ht => blk_far hc (blk_ne hc hG (hne t ht)) u⟩
/-- Some numbers that lie in a block of their own. -/
def IntsIn (W : World) (A : Option Addr) (l : List Int) : Prop := 0 < l.length → ∃ g cur, A = some ⟨g, 0, none⟩ ∧ W.heap[g]? = some (.cells cur 3 (0, 0)) ∧ ∀ i (h : i < l.length), cur[i]? = some (.int .i64 l[i])
theorem IntsIn.keep {W W' : World} {A : Option Addr} {l : List Int} (h : IntsIn W A l) (hk : KeepT W W') : IntsIn W' A l := fun h0 => by
  obtain ⟨g, cur, e, hg, hc⟩ := h h0
  exact ⟨g, cur, e, hk.2 g cur 3 hg (.inl rfl), hc⟩
theorem IntsIn.at_ {W : World} {A : Option Addr} {l : List Int} (h : IntsIn W A l) {i : Nat} (hi : i < l.length) : ∃ g, A = some ⟨g, 0, none⟩ ∧ W.cell? ⟨g, i, none⟩ = some (.int .i64 l[i]) := by
  obtain ⟨g, cur, e, hg, hc⟩ := h (by omega)
  exact ⟨g, e, (blk_cell hg i).trans (hc i hi)⟩
theorem nodesB_calls {n s k : Int} {T : List S79} {P : List S66} {A3 : Option Addr} {c3 : Nat} {A4 : Option Addr} {c4 : Nat} {w : World} (g : Good n s k P) (h : CatR w T P A3 c3 A4 c4) (a b : Int) :
    Calls Try.prog 18 #[catV n s k T P A3 c3 A4 c4, .agg #[.int .i64 a, .int .i64 b]] w fun e w' => ∃ A c, e = .returned (.slice A (nodesL n s k P a b).length c) ∧ (nodesL n s k P a b).length ≤ c ∧ IntsIn w' A (nodesL n s k P a b) ∧ Below w.heap.size w w' := by
  obtain ⟨q, hq⟩ := Ev.rounds (nodes_ev n s k T P g a b)
  refine (catalog_Nodes.calls q n s k A3 c3 T A4 c4 P a b _ w h.rT h.cT h.rP h.cP hq).mono ?_
  rintro e w' ⟨v, rfl, hr, hb⟩
  obtain ⟨A, c, rfl, hl, hc⟩ := Kd.R_reads hr
  refine ⟨A, c, rfl, hl, fun h0 => ?_, hb⟩
  obtain ⟨_, inner, ho, hrep⟩ := hr
  rcases ho.2 with ⟨e, e0⟩ | ⟨g', cap, cur, e, _, hg, _, _, _, htk⟩
  · omega
  · injection e with e1 _ _
    refine ⟨g', cur, e1, hg, fun i hi => ?_⟩
    have hp := hrep.2 i _ (List.getElem?_eq_getElem hi)
    have hin : inner[i]? = some (.int .i64 (nodesL n s k P a b)[i]) := by
      have hp' : (inner.drop (i * 1)).take 1 = [.int .i64 (nodesL n s k P a b)[i]] := hp
      have := congrArg (fun l => l[0]?) hp'
      simpa using this
    rw [← htk, List.getElem?_take] at hin
    split at hin
    · simpa using hin
    · cases hin
set_option maxHeartbeats 8000000 in
set_option maxRecDepth 100000 in
theorem each_calls (g : Nat) (lb : Array Value) (eg : ∀ args w, (callFunc g args).run Try.prog w = .ok (.enter g args) w) (w0 : World) (C nn : Nat) (s k : Int) (T : List S79) (P : List S66) (A3 : Option Addr) (c3 : Nat) (A4 : Option Addr) (c4 : Nat) (St : List Do → World → Prop) (xs : List S57) (l0 : List Do)
    (hSB : ∀ l W W', St l W → Below W.heap.size W W' → St l W')
    (hS0 : ∀ l W, St l W → Below w0.heap.size w0 W ∧ CatBox W C nn s k T P A3 c3 A4 c4)
    (hcall : ∀ (l : List Do) (W : World) (d : Do) (AR : Option Addr) (cr : Nat), St l W → d.node < nn → 0 ≤ d.at_.f0 → d.at_.f0 < P.length → k97.C w0 AR d.x.f2.length d.x.f2 → d.x.f2.length ≤ cr → (l ++ [d]).length ≤ (l0 ++ eachAll nn s k P xs).length →
      Calls Try.prog g (#[.int .i64 d.node, segV d.at_, fullV d.x AR cr] ++ lb) W fun e w' => e = .returned (.tuple #[]) ∧ St (l ++ [d]) w' ∧ KeepT W w')
    (hR : CatR w0 T P A3 c3 A4 c4) (gd : Good nn s k P) (A : Option Addr) (c : Nat) (hx : k57.C w0 A xs.length xs) (W : World) (hW : St l0 W) :
    Calls Try.prog 41 #[.slice A xs.length c, .func (.func g) #[] lb, .pointer (some ⟨C, 0, none⟩)] W fun e w' => e = .returned (.tuple #[]) ∧ St (l0 ++ eachAll nn s k P xs) w' ∧ KeepT W w' := by
  have HSB := Lib.hid hSB
  have HS0 := Lib.hid hS0
  have HCALL := Lib.hid hcall
  have HR := Lib.hid hR
  have HG := Lib.hid gd
  have HX := Lib.hid hx
  have hmx := hx.2.1
  have hmP := hR.rP.2.1
  have HW0 := Lib.hid hW
  clear hSB hS0 hcall hR gd hx hW
  go_enter Try.func41, Try.ntmps41
  go_wp2
  go_loopw [14] (fun v wr => ∃ i : Nat, v = .int .i64 i ∧ i ≤ xs.length ∧ Hid (St (l0 ++ eachAll nn s k P (xs.take i)) wr) ∧ Hid (KeepT W wr)) (fun v _ => xs.length - (intOf v).toNat)
  case atStart => exact ⟨0, rfl, Nat.zero_le _, Lib.hid (by simpa [eachAll] using HW0.out), Lib.hid (KeepT.refl _)⟩
  case round =>
    obtain ⟨i, rfl, hi, HST, HK⟩ := hrel
    obtain ⟨wo, rfl⟩ : ∃ wo : World, wo = wr := ⟨_, rfl⟩
    by_cases hlt : i < xs.length
    · have hb0 := (HS0.out _ _ HST.out).1
      obtain ⟨ad, AR, cr, e1, hc0, hc1, hc2, hc3, hle, hRow⟩ := at_T57 HX.out i (by omega) (by omega)
      simp only [Int.toNat_natCast] at hc0 hc1 hc2 hc3
      cases e1
      replace hc0 := pw_cell_below hb0 hc0
      replace hc1 := pw_cell_below hb0 hc1
      replace hc2 := pw_cell_below hb0 hc2
      replace hc3 := pw_cell_below hb0 hc3
      have HIX := Lib.hid (show rd_T57 xs i = xs[i] by simp [rd_T57, List.getD_eq_getElem?_getD, hlt])
      have HRow := Lib.hid hRow
      have hmr := hRow.2.1
      generalize hxx : rd_T57 xs i = x at *
      clear hxx hRow
      have hA1 := (Below.refl wo.heap.size wo).alloc (Nat.le_refl _) (.cells #[.int .i64 x.f0, .int .u64 x.f1.f0, .int .u32 x.f1.f1, .slice AR x.f2.length cr] 56)
      have b6 := heap_alloc_new wo (.cells #[.int .i64 x.f0, .int .u64 x.f1.f0, .int .u32 x.f1.f1, .slice AR x.f2.length cr] 56)
      have HST1 := Lib.hid (HSB.out _ _ _ HST.out hA1)
      have HK1 := Lib.hid (HK.out.trans (KeepT.below hA1))
      have B6 := Lib.hid b6
      obtain ⟨q0, q1, q2, q3, q4⟩ := (HS0.out _ _ HST1.out).2
      clear hb0 hA1 b6
      go_wp2
      generalize wo.alloc (.cells #[.int .i64 x.f0, .int .u64 x.f1.f0, .int .u32 x.f1.f1, .slice AR x.f2.length cr] 56) = W1 at *
      generalize wo.heap.size = b6n at *
      clear hc0 hc1 hc2 hc3 q0 q1 q2 q3 q4
      go_loopw [21] (fun v wr => ∃ p : Nat, v = .int .i64 p ∧ p ≤ P.length ∧ Hid (St (l0 ++ eachAll nn s k P (xs.take i) ++ eachX nn s k P x p) wr) ∧ Hid (KeepT W1 wr)) (fun v _ => P.length - (intOf v).toNat)
      case atStart => exact ⟨0, rfl, Nat.zero_le _, Lib.hid (by simpa [eachX] using HST1.out), Lib.hid (KeepT.refl _)⟩
      case round =>
        obtain ⟨p, rfl, hp, HSP, HKP⟩ := hrel
        obtain ⟨wp, rfl⟩ : ∃ wp : World, wp = wr := ⟨_, rfl⟩
        by_cases hltp : p < P.length
        · have hbp := (HS0.out _ _ HSP.out).1
          obtain ⟨ad2, B2, d2, B3, d3, e1, hc0, hc1, hc2, hc3, hc4, hc5, hl2, hC2, hl3, hC3⟩ := at_T66 (Kd.C_below HR.out.rP hbp) p (by omega) (by omega)
          simp only [Int.toNat_natCast] at hc0 hc1 hc2 hc3 hc4 hc5
          cases e1
          clear hC2 hC3
          have b6p := HKP.out.2 _ _ _ B6.out (.inr (.inr (.inl rfl)))
          have hA2 := (Below.refl wp.heap.size wp).alloc (Nat.le_refl _) (.cells #[.string (rd_T66 P p).f0, .int .i64 (rd_T66 P p).f1, .slice B2 (rd_T66 P p).f2.length d2, .slice B3 (rd_T66 P p).f3.length d3, .int .i64 (rd_T66 P p).f4, .int .i64 (rd_T66 P p).f5] 66)
          have b6q := blk_below b6p hA2
          have B6Q := Lib.hid b6q
          have y0 := (blk_cell b6q 0).trans rfl
          have y3 := (blk_cell b6q 3).trans rfl
          have HSP2 := Lib.hid (HSB.out _ _ _ HSP.out hA2)
          have HKP2 := Lib.hid (HKP.out.trans (KeepT.below hA2))
          obtain ⟨q0, q1, q2, q3, q4⟩ := (HS0.out _ _ HSP2.out).2
          have x1 : (wp.alloc (.cells #[.string (rd_T66 P p).f0, .int .i64 (rd_T66 P p).f1, .slice B2 (rd_T66 P p).f2.length d2, .slice B3 (rd_T66 P p).f3.length d3, .int .i64 (rd_T66 P p).f4, .int .i64 (rd_T66 P p).f5] 66)).cell? ⟨wp.heap.size, 1, none⟩ = some (.int .i64 (rd_T66 P p).f1) := by simp [go_sem]
          have HONE := Lib.hid (show eachOne nn s k P x p = if (rd_T66 P p).f1 = x.f0 then (nodesAt nn s k P x p).map (doAt s P x p) else [] from rfl)
          have HSUC := Lib.hid (show l0 ++ eachAll nn s k P (xs.take i) ++ eachX nn s k P x (p + 1) = l0 ++ eachAll nn s k P (xs.take i) ++ eachX nn s k P x p ++ eachOne nn s k P x p by rw [eachX_succ, List.append_assoc, List.append_assoc, List.append_assoc])
          clear b6p b6q hA2 hbp
          by_cases hq : (rd_T66 P p).f1 = x.f0
          · have dq : ((rd_T66 P p).f1 == x.f0) = true := beq_iff_eq.2 hq
            have HO := Lib.hid (show eachOne nn s k P x p = (nodesAt nn s k P x p).map (doAt s P x p) by rw [HONE.out, if_pos hq])
            clear hq
            go_wp2_with (fail)
            generalize wp.alloc (.cells #[.string (rd_T66 P p).f0, .int .i64 (rd_T66 P p).f1, .slice B2 (rd_T66 P p).f2.length d2, .slice B3 (rd_T66 P p).f3.length d3, .int .i64 (rd_T66 P p).f4, .int .i64 (rd_T66 P p).f5] 66) = W2 at *
            have hb2 := (HS0.out _ _ HSP2.out).1
            clear hc0 hc1 hc2 hc3 hc4 hc5 x1
            refine (where_calls nn s k T P _ c3 _ c4 p AR cr x.f2 W2 (HR.out.below hb2) HG.out.hs.1 HG.out.hs.2 (by omega) (by omega) (Kd.C_below HRow.out hb2) hle).mono ?_
            rintro e w3 ⟨rfl, hb⟩
            have HDO := Lib.hid (show ∀ m, doAt s P x p m = ⟨m.toNat, whereS s P x.f2 p, x⟩ from fun m => rfl)
            have HNA := Lib.hid (show nodesAt nn s k P x p = nodesL nn s k P (whereS s P x.f2 p).f0 (whereS s P x.f2 p).f1 from rfl)
            have HY0 := Lib.hid (show (whereS s P x.f2 p).f0 = (p : Int) from rfl)
            generalize whereS s P x.f2 p = y at *
            have hA4 := hb.trans (((Below.refl w3.heap.size w3).alloc (Nat.le_refl _) (.cells #[.int .i64 y.f0, .int .i64 y.f1] 31)).mono hb.size)
            have HST4 := Lib.hid (HSB.out _ _ _ HSP2.out hA4)
            have HK4 := Lib.hid (HKP2.out.trans (KeepT.below hA4))
            have B6R := Lib.hid (blk_below B6Q.out hA4)
            have b9 := heap_alloc_new w3 (.cells #[.int .i64 y.f0, .int .i64 y.f1] 31)
            have B9 := Lib.hid b9
            have z0 := (blk_cell b9 0).trans rfl
            have z1 := (blk_cell b9 1).trans rfl
            clear y0 y3 q0 q1 q2 q3 q4 hb2
            have hb4 := (HS0.out _ _ HST4.out).1
            obtain ⟨q0, q1, q2, q3, q4⟩ := (HS0.out _ _ HST4.out).2
            obtain ⟨u0, u1, u2, u3, u4⟩ := CatBox.below (HS0.out _ _ HSP2.out).2 hb
            have y0 := (blk_cell (blk_below B6Q.out hb) 3).trans rfl
            clear hA4 b9 hb
            go_wp2_with (fail)
            generalize w3.alloc (.cells #[.int .i64 y.f0, .int .i64 y.f1] 31) = W4 at *
            generalize w3.heap.size = b9n at *
            refine (nodesB_calls HG.out (HR.out.below hb4) y.f0 y.f1).mono ?_
            rintro e w5 ⟨AN, cN, rfl, hleN, hIN, hb⟩
            have HST5 := Lib.hid (HSB.out _ _ _ HST4.out hb)
            have HK5 := Lib.hid (HK4.out.trans (KeepT.below hb))
            have B65 := Lib.hid (blk_below B6R.out hb)
            have B95 := Lib.hid (blk_below B9.out hb)
            have HIN := Lib.hid hIN
            have hNl := nodesL_length nn s k P HG.out y.f0 y.f1
            have HNN := Lib.hid (fun m => nodesL_nonneg nn s k P HG.out y.f0 y.f1 m)
            clear hb hb4 hIN q0 q1 q2 q3 q4 u0 u1 u2 u3 u4 y0 z0 z1
            have HOM := Lib.hid (show eachOne nn s k P x p = (nodesL nn s k P y.f0 y.f1).map (doAt s P x p) by rw [HO.out, HNA.out])
            generalize nodesL nn s k P y.f0 y.f1 = N at *
            go_wp2
            go_loopw [40] (fun v wr => ∃ j : Nat, v = .int .i64 j ∧ j ≤ N.length ∧ Hid (St (l0 ++ eachAll nn s k P (xs.take i) ++ eachX nn s k P x p ++ (N.take j).map (doAt s P x p)) wr) ∧ Hid (KeepT w5 wr)) (fun v _ => N.length - (intOf v).toNat)
            case atStart => exact ⟨0, rfl, Nat.zero_le _, Lib.hid (by simpa using HST5.out), Lib.hid (KeepT.refl _)⟩
            case round =>
              obtain ⟨j, rfl, hj, HSJ, HKJ⟩ := hrel
              obtain ⟨wq, rfl⟩ : ∃ wq : World, wq = wr := ⟨_, rfl⟩
              by_cases hltj : j < N.length
              · obtain ⟨gn, e1, m0⟩ := (HIN.out.keep HKJ.out).at_ hltj
                cases e1
                have b6w := HKJ.out.2 _ _ _ B65.out (.inr (.inr (.inl rfl)))
                have b9w := HKJ.out.2 _ _ _ B95.out (.inr (.inl rfl))
                have y0 := (blk_cell b6w 0).trans rfl
                have y1 := (blk_cell b6w 1).trans rfl
                have y2 := (blk_cell b6w 2).trans rfl
                have y3 := (blk_cell b6w 3).trans rfl
                have z0 := (blk_cell b9w 0).trans rfl
                have z1 := (blk_cell b9w 1).trans rfl
                have hnm := HNN.out N[j] (List.getElem_mem hltj)
                have HTK := Lib.hid (show l0 ++ eachAll nn s k P (xs.take i) ++ eachX nn s k P x p ++ (N.take (j + 1)).map (doAt s P x p) = (l0 ++ eachAll nn s k P (xs.take i) ++ eachX nn s k P x p ++ (N.take j).map (doAt s P x p)) ++ [doAt s P x p N[j]] by
                  rw [List.take_succ_eq_append_getElem hltj, List.map_append]; simp)
                generalize N[j] = m at *
                obtain ⟨mm, rfl⟩ := Int.eq_ofNat_of_zero_le hnm.1
                have HDM := Lib.hid (show doAt s P x p (mm : Int) = ⟨mm, y, x⟩ by rw [HDO.out]; simp)
                clear b6w b9w
                go_wp2_with (fail)
                refine (HCALL.out (l0 ++ eachAll nn s k P (xs.take i) ++ eachX nn s k P x p ++ (N.take j).map (doAt s P x p)) wq ⟨mm, y, x⟩ AR cr HSJ.out (by show mm < nn; omega) (by show 0 ≤ y.f0; rw [HY0.out]; omega) (by show y.f0 < P.length; rw [HY0.out]; omega) HRow.out hle ?lens).mono ?_
                case lens =>
                  have e1 := eachAll_len nn s k P xs (i + 1)
                  have e2 := congrArg List.length (eachAll_succ nn s k P hlt)
                  rw [← HIX.out, List.length_append] at e2
                  have e3 := eachX_len nn s k P x (show p + 1 ≤ P.length by omega)
                  have e4 := congrArg List.length (eachX_succ nn s k P x p)
                  rw [List.length_append, HOM.out, List.length_map] at e4
                  simp only [List.length_append, List.length_map, List.length_take, List.length_cons, List.length_nil]
                  omega
                rintro e w7 ⟨rfl, hst, hk⟩
                have HSN := Lib.hid (show St (l0 ++ eachAll nn s k P (xs.take i) ++ eachX nn s k P x p ++ (N.take (j + 1)).map (doAt s P x p)) w7 by rw [HTK.out, HDM.out]; exact hst)
                have HKN := Lib.hid (HKJ.out.trans hk)
                clear hst hk y0 y1 y2 y3 z0 z1
                go_wp2
                go_roundw
                case rel => exact ⟨j + 1, by go_num, hltj, HSN, HKN⟩
                case measure => simp [intOf]; omega
              · obtain rfl : j = N.length := by omega
                have HSN := Lib.hid (show St (l0 ++ eachAll nn s k P (xs.take i) ++ eachX nn s k P x (p + 1)) wq by
                  have := HSJ.out
                  rw [List.take_length] at this
                  rw [HSUC.out, HOM.out]; exact this)
                go_wp2
                go_roundw
                case rel => exact ⟨p + 1, by go_num, hltp, HSN, Lib.hid (HK5.out.trans HKJ.out)⟩
                case measure => simp [intOf]; omega
          · have HE := Lib.hid (show l0 ++ eachAll nn s k P (xs.take i) ++ eachX nn s k P x (p + 1) = l0 ++ eachAll nn s k P (xs.take i) ++ eachX nn s k P x p by rw [HSUC.out, HONE.out, if_neg hq, List.append_nil])
            have dq : ((rd_T66 P p).f1 == x.f0) = false := beq_eq_false_iff_ne.2 hq
            clear hq
            go_wp2
            go_roundw
            case rel => exact ⟨p + 1, by go_num, hltp, Lib.hid (by rw [HE.out]; exact HSP2.out), HKP2⟩
            case measure => simp [intOf]; omega
        · obtain rfl : p = P.length := by omega
          have HE := Lib.hid (show l0 ++ eachAll nn s k P (xs.take (i + 1)) = l0 ++ eachAll nn s k P (xs.take i) ++ eachX nn s k P x P.length by rw [eachAll_succ _ _ _ _ hlt, ← HIX.out, List.append_assoc])
          go_wp2
          go_roundw
          case rel => exact ⟨i + 1, by go_num, hlt, Lib.hid (by rw [HE.out]; exact HSP.out), Lib.hid (HK1.out.trans HKP.out)⟩
          case measure => simp [intOf]; omega
    · obtain rfl : i = xs.length := by omega
      have HF := Lib.hid (show St (l0 ++ eachAll nn s k P xs) wo by have := HST.out; rwa [List.take_length] at this)
      go_wp2
      go_end0
      exact ⟨rfl, HF.out, HK.out⟩
end Go.Proofs.Ytnaaaldeadjohaa.Cat

set_option linter.unusedVariables false
set_option linter.unusedSimpArgs false
namespace Go.Proofs.Ytnaaaldeadjohaa.Cat
open Go.RowKit Go.Shelf Go.Proofs Go.Proofs.YtnaaaldeadjohaaW.PrintWords Go.Proofs.Ytnaaaldeadjohaa.PCatalogLies
/-! ### What Parts does at one node: an erase -/
theorem ne72 : ∀ t : TypeId, (t = 3 ∨ t = 31 ∨ t = 56 ∨ t = 66) → 72 ≠ t := by rintro t (rfl | rfl | rfl | rfl) <;> decide
theorem ne70 : ∀ t : TypeId, (t = 3 ∨ t = 31 ∨ t = 56 ∨ t = 66) → 70 ≠ t := by rintro t (rfl | rfl | rfl | rfl) <;> decide
theorem ne62 : ∀ t : TypeId, (t = 3 ∨ t = 31 ∨ t = 56 ∨ t = 66) → t ≠ 62 := by rintro t (rfl | rfl | rfl | rfl) <;> decide
set_option maxHeartbeats 8000000 in
set_option maxRecDepth 100000 in
theorem era_calls (w0 : World) (C Pv G nn : Nat) (n s k : Int) (T : List S79) (P : List S66) (A3 : Option Addr) (c3 : Nat) (A4 : Option Addr) (c4 : Nat) (LI : Nat → List S70) (LE : Nat → List S72) (vI vE : Nat → Value) (xI : Nat → List Value) (W : World)
    (h : PS W w0 C Pv G nn n s k T P A3 c3 A4 c4 LI LE vI vE xI) (node : Nat) (hn : node < nn) (hlen : (LE node).length ≤ 1000000000) (at_ : S31) (x : S57) (AR : Option Addr) (cr : Nat) (hnn : nn ≤ 8) :
    Calls Try.prog 44 (#[.int .i64 node, segV at_, fullV x AR cr] ++ #[.pointer (some ⟨Pv, 0, none⟩)]) W fun e w' => e = .returned (.tuple #[]) ∧ ∃ vE', PS w' w0 C Pv G nn n s k T P A3 c3 A4 c4 LI (upd LE node (LE node ++ [⟨at_, x.f1⟩])) vI vE' xI ∧ KeepT W w' := by
  obtain ⟨i0, hi, hz0, hz1, hz2⟩ := info_parts info72
  have hA := ((Below.refl W.heap.size W).alloc (Nat.le_refl _) (.cells #[.int .i64 at_.f0, .int .i64 at_.f1] 31)).alloc (by simp) (.cells #[.int .i64 x.f0, .int .u64 x.f1.f0, .int .u32 x.f1.f1, .slice AR x.f2.length cr] 56)
  have H2 := Lib.hid (h.below hA)
  have b31 := blk_alloc (heap_alloc_new W (.cells #[.int .i64 at_.f0, .int .i64 at_.f1] 31)) (.cells #[.int .i64 x.f0, .int .u64 x.f1.f0, .int .u32 x.f1.f1, .slice AR x.f2.length cr] 56)
  have b56 := heap_alloc_new (W.alloc (.cells #[.int .i64 at_.f0, .int .i64 at_.f1] 31)) (.cells #[.int .i64 x.f0, .int .u64 x.f1.f0, .int .u32 x.f1.f1, .slice AR x.f2.length cr] 56)
  rw [World.size_alloc] at b56
  have HKA := Lib.hid (KeepT.below hA)
  clear hA h
  go_enter Try.func44, Try.ntmps44
  go_wp2
  generalize (W.alloc (.cells #[.int .i64 at_.f0, .int .i64 at_.f1] 31)).alloc (.cells #[.int .i64 x.f0, .int .u64 x.f1.f0, .int .u32 x.f1.f1, .slice AR x.f2.length cr] 56) = W2 at *
  have hown := H2.out.pm.fE.own node hn
  have HO := Lib.hid hown
  have p0 := (blk_cell H2.out.hP 0).trans rfl
  have gE := H2.out.cellE hn
  have s0 := (blk_cell b31 0).trans rfl
  have s1 := (blk_cell b31 1).trans rfl
  have f1 := (blk_cell b56 1).trans rfl
  have f2 := (blk_cell b56 2).trans rfl
  have hsz := H2.out.hB.size
  have B31 := Lib.hid b31
  have B56 := Lib.hid b56
  clear b31 b56 hown
  have HX := Lib.hid (H2.out.below (((Below.refl W2.heap.size W2).alloc (Nat.le_refl _) (.cells #[.int .i64 at_.f0, .int .i64 at_.f1, .int .u64 x.f1.f0, .int .u32 x.f1.f1] 72)).drew))
  have p0' := pw_cell_below ((Below.refl W2.heap.size W2).alloc (Nat.le_refl _) (.cells #[.int .i64 at_.f0, .int .i64 at_.f1, .int .u64 x.f1.f0, .int .u32 x.f1.f1] 72)) p0
  have gE' := pw_cell_below ((Below.refl W2.heap.size W2).alloc (Nat.le_refl _) (.cells #[.int .i64 at_.f0, .int .i64 at_.f1, .int .u64 x.f1.f0, .int .u32 x.f1.f1] 72)) gE
  have HKX := Lib.hid (KeepT.below (((Below.refl W2.heap.size W2).alloc (Nat.le_refl _) (.cells #[.int .i64 at_.f0, .int .i64 at_.f1, .int .u64 x.f1.f0, .int .u32 x.f1.f1] 72)).drew))
  generalize hv : vE node = v at *
  have HS := Lib.hid (fun (w' : World) (hb : Below W2.heap.size W2 w') => (show w'.cell? ⟨Pv, 0, none⟩ = some (.slice (some ⟨G, 0, none⟩) nn nn) ∧ w'.cell? ⟨W.heap.size, 0, none⟩ = some (.int .i64 at_.f0) ∧ w'.cell? ⟨W.heap.size, 1, none⟩ = some (.int .i64 at_.f1) ∧ w'.cell? ⟨W.heap.size + 1, 1, none⟩ = some (.int .u64 x.f1.f0) ∧ w'.cell? ⟨W.heap.size + 1, 2, none⟩ = some (.int .u32 x.f1.f1) ∧ w'.cell? ⟨G, node * 2 + 1, none⟩ = some v from ⟨pw_cell_below hb p0, pw_cell_below hb s0, pw_cell_below hb s1, pw_cell_below hb f1, pw_cell_below hb f2, pw_cell_below hb gE⟩))
  have HBD := Lib.hid (show Below W2.heap.size W2 W2.drew from (Below.refl _ W2).drew)
  have HBA := Lib.hid (show Below W2.heap.size W2 (W2.alloc (.cells #[.int .i64 at_.f0, .int .i64 at_.f1, .int .u64 x.f1.f0, .int .u32 x.f1.f1] 72)).drew from ((Below.refl W2.heap.size W2).alloc (Nat.le_refl _) (.cells #[.int .i64 at_.f0, .int .i64 at_.f1, .int .u64 x.f1.f0, .int .u32 x.f1.f1] 72)).drew)
  refine wp_region_sinkB 15 (fun w' => w'.cell? ⟨Pv, 0, none⟩ = some (.slice (some ⟨G, 0, none⟩) nn nn) ∧ w'.cell? ⟨W.heap.size, 0, none⟩ = some (.int .i64 at_.f0) ∧ w'.cell? ⟨W.heap.size, 1, none⟩ = some (.int .i64 at_.f1) ∧ w'.cell? ⟨W.heap.size + 1, 1, none⟩ = some (.int .u64 x.f1.f0) ∧ w'.cell? ⟨W.heap.size + 1, 2, none⟩ = some (.int .u32 x.f1.f1) ∧ w'.cell? ⟨G, node * 2 + 1, none⟩ = some v) (by kernel_rfl) rfl rfl rfl rfl (by kernel_rfl) (by kernel_rfl) (by kernel_rfl) ?_
  refine wpAnyH_take (i := 0) (v := ?_) rfl (by kernel_rfl) (by kernel_rfl) (by kernel_rfl) (fun _ _ _ h => ⟨(fun e => by cases e), fun e => h.2 e⟩) (Or.inl ⟨by rfl, fun w' hS => ?_⟩) (HS.out _ HBD.out) ?_
  rotate_left
  · obtain ⟨a1, a2, a3, a4, a5, a6⟩ := hS
    go_simp
    try rfl
  refine wpAnyH_take (i := 1) (v := ?_) rfl (by kernel_rfl) (by kernel_rfl) (by kernel_rfl) (fun _ _ _ h => ⟨(fun e => by cases e), fun e => h.2 e⟩) (Or.inl ⟨by rfl, fun w' hS => ?_⟩) (HS.out _ HBD.out) ?_
  rotate_left
  · obtain ⟨a1, a2, a3, a4, a5, a6⟩ := hS
    go_simp
    try rfl
  refine wpAnyH_take (i := 2) (v := ?_) rfl (by kernel_rfl) (by kernel_rfl) (by kernel_rfl) (fun _ _ _ h => ⟨(fun e => by cases e), fun e => h.2 e⟩) (Or.inl ⟨by rfl, fun w' hS => ?_⟩) (HS.out _ HBD.out) ?_
  rotate_left
  · obtain ⟨a1, a2, a3, a4, a5, a6⟩ := hS
    go_simp
    try rfl
  refine wpAnyH_take (i := 3) (v := ?_) rfl (by kernel_rfl) (by kernel_rfl) (by kernel_rfl) (fun _ _ _ h => ⟨(fun e => by cases e), fun e => h.2 e⟩) (Or.inl ⟨by rfl, fun w' hS => ?_⟩) (HS.out _ HBD.out) ?_
  rotate_left
  · obtain ⟨a1, a2, a3, a4, a5, a6⟩ := hS
    go_simp
    try rfl
  refine wpAnyH_take (i := 4) (v := ?_) rfl (by kernel_rfl) (by kernel_rfl) (by kernel_rfl) (fun _ _ _ h => ⟨(fun e => by cases e), fun e => h.2 e⟩) (Or.inl ⟨by rfl, fun w' hS => ?_⟩) (HS.out _ HBD.out) ?_
  rotate_left
  · obtain ⟨a1, a2, a3, a4, a5, a6⟩ := hS
    go_simp
    try rfl
  refine wpAnyH_take (i := 5) (v := ?_) rfl (by kernel_rfl) (by kernel_rfl) (by kernel_rfl) (fun _ _ _ h => ⟨(fun e => by cases e), fun e => h.2 e⟩) (Or.inl ⟨by rfl, fun w' hS => ?_⟩) (HS.out _ HBD.out) ?_
  rotate_left
  · obtain ⟨a1, a2, a3, a4, a5, a6⟩ := hS
    go_simp
    try rfl
  refine wpAnyH_take (i := 6) (v := ?_) rfl (by kernel_rfl) (by kernel_rfl) (by kernel_rfl) (fun _ _ _ h => ⟨(fun e => by cases e), fun e => h.2 e⟩) (Or.inl ⟨by rfl, fun w' hS => ?_⟩) (HS.out _ HBD.out) ?_
  rotate_left
  · obtain ⟨a1, a2, a3, a4, a5, a6⟩ := hS
    go_simp
    try rfl
  refine wpAnyH_take (i := 7) (v := ?_) rfl (by kernel_rfl) (by kernel_rfl) (by kernel_rfl) (fun _ _ _ h => ⟨(fun e => by cases e), fun e => h.2 e⟩) (Or.inl ⟨by rfl, fun w' hS => ?_⟩) (HS.out _ HBD.out) ?_
  rotate_left
  · obtain ⟨a1, a2, a3, a4, a5, a6⟩ := hS
    go_simp
    try rfl
  refine wpAnyH_take (i := 8) (v := ?_) rfl (by kernel_rfl) (by kernel_rfl) (by kernel_rfl) (fun _ _ _ h => ⟨(fun e => by cases e), fun e => h.2 e⟩) (Or.inl ⟨by rfl, fun w' hS => ?_⟩) (HS.out _ HBD.out) ?_
  rotate_left
  · obtain ⟨a1, a2, a3, a4, a5, a6⟩ := hS
    go_simp
    try rfl
  refine wpAnyH_take (i := 9) (v := ?_) rfl (by kernel_rfl) (by kernel_rfl) (by kernel_rfl) (fun _ _ _ h => ⟨(fun e => by cases e), fun e => h.2 e⟩) (Or.inl ⟨by rfl, fun w' hS => ?_⟩) (HS.out _ HBD.out) ?_
  rotate_left
  · obtain ⟨a1, a2, a3, a4, a5, a6⟩ := hS
    go_simp
    try rfl
  refine wpAnyH_take (i := 10) (v := ?_) rfl (by kernel_rfl) (by kernel_rfl) (by kernel_rfl) (fun _ _ _ h => ⟨(fun e => by cases e), fun e => h.2 e⟩) (Or.inl ⟨by rfl, fun w' hS => ?_⟩) (HS.out _ HBD.out) ?_
  rotate_left
  · obtain ⟨a1, a2, a3, a4, a5, a6⟩ := hS
    go_simp
    try rfl
  refine wpAnyH_ready (rs := [11]) (by kernel_rfl) (by simp) ?_
  refine AllReadyH.cons rfl (fun K hK => ?_) AllReadyH.nil
  go_simp
  refine hK.out _ _ (HS.out _ HBA.out) (fun hHeld => ?_)
  clear hK K
  refine wpAnyH_ready (rs := [12]) (by kernel_rfl) (by simp) ?_
  refine AllReadyH.cons rfl (fun K hK => ?_) AllReadyH.nil
  refine step_append_lies _ (by rfl) _ _ 60 (by rfl) w0.heap.size 72 i0 _ 4 32 Try.underlying60 hi hz0 hz1 hz2 rfl (by decide) v _ _ (by rfl) ((HO.out.alloc _).drew)
        ⟨W2.heap.size, 0, none⟩ 1 1 [.int .i64 at_.f0, .int .i64 at_.f1, .int .u64 x.f1.f0, .int .u32 x.f1.f1] (by rfl) (by rfl) (World.news_of_block (cs := #[.int .i64 at_.f0, .int .i64 at_.f1, .int .u64 x.f1.f0, .int .u32 x.f1.f1]) (t := 72) (fr := (0, 0)) (heap_alloc_new W2 _)) (by simp [Value.oneCell'])
        (by decide) (by simp only [maxLen]; omega) (by omega) (by simp; omega) (W2.heap.size + 1) (by simp) ?_
  intro gg cap w1 hown1 hgrow hat hlt
  have hG1 := blk_grown HX.out.pm.blk (by rw [hv]; exact hgrow) (own_ne (HX.out.pm.fE.own node hn) HX.out.pm.blk (by decide))
  have hP1 := blk_grown HX.out.hP (by rw [hv]; exact hgrow) (own_ne (HX.out.pm.fE.own node hn) HX.out.hP (by decide))
  have h31 := blk_grown (w := (W2.alloc (.cells #[.int .i64 at_.f0, .int .i64 at_.f1, .int .u64 x.f1.f0, .int .u32 x.f1.f1] 72)).drew) (blk_alloc B31.out (.cells #[.int .i64 at_.f0, .int .i64 at_.f1, .int .u64 x.f1.f0, .int .u32 x.f1.f1] 72)) hgrow (own_ne (w := (W2.alloc (.cells #[.int .i64 at_.f0, .int .i64 at_.f1, .int .u64 x.f1.f0, .int .u32 x.f1.f1] 72)).drew) ((HO.out.alloc (.cells #[.int .i64 at_.f0, .int .i64 at_.f1, .int .u64 x.f1.f0, .int .u32 x.f1.f1] 72)).drew) (blk_alloc B31.out (.cells #[.int .i64 at_.f0, .int .i64 at_.f1, .int .u64 x.f1.f0, .int .u32 x.f1.f1] 72)) (by decide))
  have h56 := blk_grown (w := (W2.alloc (.cells #[.int .i64 at_.f0, .int .i64 at_.f1, .int .u64 x.f1.f0, .int .u32 x.f1.f1] 72)).drew) (blk_alloc B56.out (.cells #[.int .i64 at_.f0, .int .i64 at_.f1, .int .u64 x.f1.f0, .int .u32 x.f1.f1] 72)) hgrow (own_ne (w := (W2.alloc (.cells #[.int .i64 at_.f0, .int .i64 at_.f1, .int .u64 x.f1.f0, .int .u32 x.f1.f1] 72)).drew) ((HO.out.alloc (.cells #[.int .i64 at_.f0, .int .i64 at_.f1, .int .u64 x.f1.f0, .int .u32 x.f1.f1] 72)).drew) (blk_alloc B56.out (.cells #[.int .i64 at_.f0, .int .i64 at_.f1, .int .u64 x.f1.f0, .int .u32 x.f1.f1] 72)) (by decide))
  have c1 : w1.cell? ⟨G, node * 2 + 1, none⟩ = some v := (blk_cell hG1 _).trans (by rw [pc_cell, if_pos (by omega), if_neg (by omega), show (node * 2 + 1) / 2 = node by omega, hv])
  have f1' := blk_frozen hG1 (node * 2 + 1)
  have HS1 := Lib.hid (show w1.cell? ⟨Pv, 0, none⟩ = some (.slice (some ⟨G, 0, none⟩) nn nn) ∧ w1.cell? ⟨W.heap.size, 0, none⟩ = some (.int .i64 at_.f0) ∧ w1.cell? ⟨W.heap.size, 1, none⟩ = some (.int .i64 at_.f1) ∧ w1.cell? ⟨W.heap.size + 1, 1, none⟩ = some (.int .u64 x.f1.f0) ∧ w1.cell? ⟨W.heap.size + 1, 2, none⟩ = some (.int .u32 x.f1.f1) ∧ w1.cell? ⟨G, node * 2 + 1, none⟩ = some v from ⟨(blk_cell hP1 0).trans rfl, (blk_cell h31 0).trans rfl, (blk_cell h31 1).trans rfl, (blk_cell h56 1).trans rfl, (blk_cell h56 2).trans rfl, c1⟩)
  have HKG := Lib.hid (fun (u : Value) => (KeepT.grown (HX.out.pm.fE.own node hn) ne72 (by rw [hv]; exact hgrow)).trans (KeepT.set hG1 ne62 (node * 2 + 1) u))
  have HG1 := Lib.hid hgrow
  have HO1 := Lib.hid hown1
  have HAT := Lib.hid hat
  clear hP1 h31 h56 hgrow hown1 hat hG1
  refine hK.out _ _ HS1.out (fun hHeld => ?_)
  clear hK K
  refine wpAnyH_take (i := 13) (v := ?_) rfl (by kernel_rfl) (by kernel_rfl) (by kernel_rfl) (fun _ _ _ h => ⟨(fun e => by cases e), fun e => h.2 e⟩) (Or.inl ⟨by rfl, fun w' hS => ?_⟩) HS1.out ?_
  rotate_left
  · obtain ⟨a1, a2, a3, a4, a5, a6⟩ := hS
    go_simp
    try rfl
  refine wpAnyH_take (i := 14) (v := ?_) rfl (by kernel_rfl) (by kernel_rfl) (by kernel_rfl) (fun _ _ _ h => ⟨(fun e => by cases e), fun e => h.2 e⟩) (Or.inl ⟨by rfl, fun w' hS => ?_⟩) HS1.out ?_
  rotate_left
  · obtain ⟨a1, a2, a3, a4, a5, a6⟩ := hS
    go_simp
    try rfl
  refine wpAnyH_take (i := 15) (v := ?_) rfl (by kernel_rfl) (by kernel_rfl) (by kernel_rfl) (fun _ _ _ h => ⟨(fun e => by cases e), fun e => h.2 e⟩) (Or.inl ⟨by rfl, fun w' hS => ?_⟩) HS1.out ?_
  rotate_left
  · obtain ⟨a1, a2, a3, a4, a5, a6⟩ := hS
    go_simp
    try rfl
  refine wpAnyH_done (by kernel_rfl) ?_ _
  refine ⟨fun _ => ?_, fun h => absurd rfl h⟩
  unfold wpOp
  simp only [List.getElem?_toArray, List.getElem?_cons_succ, List.getElem?_cons_zero]
  rw [if_pos (by rfl)]
  left
  go_simp
  go_wp2
  all_goals go_end0
  all_goals
    refine ⟨rfl, _, HX.out.era hn (x := ⟨at_, x.f1⟩) (by rw [eraCells_snoc]; exact HO1.out) (by rw [hv]; exact HG1.out) ?_, (HKA.out.trans HKX.out).trans (HKG.out _)⟩
    rw [hv]
    rcases HAT.out with h | h
    · exact .inl h.symm
    · exact .inr ⟨_, congrArg some h, by simp⟩
end Go.Proofs.Ytnaaaldeadjohaa.Cat
