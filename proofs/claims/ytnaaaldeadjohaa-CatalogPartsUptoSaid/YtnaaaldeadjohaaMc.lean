import Derived.Test.YtnaaaldeadjohaaMb
import Derived.WalkKit
import Derived.ProofKit
import Derived.OpenShut
import Derived.ShutString
import Derived.ChangeOld
import Derived.Below
import Derived.SizedLaws
import Derived.Deep.Slices
set_option linter.unusedVariables false
set_option linter.unusedSimpArgs false
namespace Go.Proofs.Ytnaaaldeadjohaa.Cat
open Go.RowKit Go.Shelf Go.Proofs Go.Proofs.YtnaaaldeadjohaaW.PrintWords Go.Proofs.Ytnaaaldeadjohaa.PCatalogLies
attribute [local go_sem] Oper.semAt_some
theorem bool_at {w : World} {A : Option Addr} {xs : List Bool} (h : Kd.C Kd.bool w A xs.length xs) (k : Nat) (hk : k < xs.length) : ∃ ad, A = some ad ∧ w.cell? (ad.add k) = some (.bool (rdOf false xs k)) := by
  obtain ⟨ad, e, hc⟩ := Kd.at_bool h k (by omega) (by omega)
  exact ⟨ad, e, by simpa using hc⟩
set_option maxHeartbeats 2000000 in
theorem live_calls (m : Int) (b : Nat) (B : Option Addr) (d : Nat) (live : List Bool) (w : World) (hm : 0 ≤ m) (hc : w.cell? ⟨b, 0, none⟩ = some (.slice B live.length d)) (hr : Kd.bool.C w B live.length live) :
    Calls Try.prog 40 #[.int .i64 m, .pointer (some ⟨b, 0, none⟩)] w fun e w' => e = .returned (.bool (liveB live m)) ∧ Below w.heap.size w w' := by
  have HR := Lib.hid hr
  clear hr
  by_cases hlt : m < live.length
  · obtain ⟨j, rfl⟩ := Int.eq_ofNat_of_zero_le hm
    obtain ⟨ad, e, hcell⟩ := bool_at HR.out j (by omega)
    cases e
    have HF := Lib.hid (show liveB live (j : Int) = rdOf false live (j : Int) by unfold liveB; rw [decide_eq_true hlt]; rfl)
    generalize rdOf false live (j : Int) = v at *
    go_enter Try.func40, Try.ntmps40
    go_wp2
    go_ret
    exact ⟨by rw [HF.out]; rfl, Below.refl _ _⟩
  · have HF := Lib.hid (show liveB live m = false by unfold liveB; rw [decide_eq_false hlt]; rfl)
    go_enter Try.func40, Try.ntmps40
    go_wp2
    go_ret
    exact ⟨by rw [HF.out]; rfl, Below.refl _ _⟩
/-- What is held of some segments: each has a copy that is live. -/
def heldB (n s k : Int) (P : List S66) (live : List Bool) (y : S31) : Bool := (nodesL n s k P y.f0 y.f1).any (liveB live)
theorem held_calls (n s k : Int) (P : List S66) (g : Good n s k P) (y : S31) (Av : Option Addr) (cv b : Nat) (B : Option Addr) (d : Nat) (live : List Bool) (w : World) (hv : (Kd.int .i64).C w Av (nodesL n s k P y.f0 y.f1).length (nodesL n s k P y.f0 y.f1)) (hc : w.cell? ⟨b, 0, none⟩ = some (.slice B live.length d)) (hr : Kd.bool.C w B live.length live) :
    Calls Try.prog 39 #[.slice Av (nodesL n s k P y.f0 y.f1).length cv, .func (.func 40) #[] #[.pointer (some ⟨b, 0, none⟩)]] w fun e w' => e = .returned (.bool (heldB n s k P live y)) ∧ Below w.heap.size w w' :=
  ContainsFunc_int 40 #[.pointer (some ⟨b, 0, none⟩)] (enters_of Try.func40 (by kernel_rfl) rfl) Av (nodesL n s k P y.f0 y.f1) cv (liveB live) w hv (fun m hm X hX => live_calls m b B d live X (nodesL_nonneg n s k P g y.f0 y.f1 m hm).1 (pw_cell_below hX hc) (Kd.C_below hr hX))
theorem covered_no {n s k : Int} {P : List S66} {live : List Bool} {pre : List S31} (h : pre <+: segsL s P) {y : S31} (hy : y ∈ pre) (hn : heldB n s k P live y = false) : covered n s k P live = false := by
  cases e : covered n s k P live
  · rfl
  · unfold covered at e
    rw [List.all_eq_true] at e
    have := e y (h.subset hy)
    rw [show (nodesL n s k P y.f0 y.f1).any (liveB live) = heldB n s k P live y from rfl, hn] at this
    cases this
theorem covered_yes {n s k : Int} {P : List S66} {live : List Bool} (h : ∀ y ∈ segsL s P, heldB n s k P live y = true) : covered n s k P live = true := by
  unfold covered
  rw [List.all_eq_true]
  exact h
set_option maxRecDepth 100000 in
set_option maxHeartbeats 4000000 in
theorem cov_calls (n s k : Int) (T : List S79) (P : List S66) (A3 : Option Addr) (c3 : Nat) (A4 : Option Addr) (c4 : Nat) (B : Option Addr) (d : Nat) (live : List Bool) (w : World) (g : Good n s k P) (h : CatR w T P A3 c3 A4 c4) (hl : Kd.bool.C w B live.length live) (hd : live.length ≤ d) :
    Calls Try.prog 20 #[catV n s k T P A3 c3 A4 c4, .slice B live.length d] w fun e w' => e = .returned (.bool (covered n s k P live)) ∧ Below w.heap.size w w' := by
  refine (callsIn_wide (n := 5)).1 ?_
  refine callsIn_of_wp_marks Try.func20 rfl trivial ?_ rfl
  simp only [Try.ntmps20, List.size_toArray, List.length_cons, List.length_nil, Nat.reduceAdd, Nat.reduceSub, Array.replicate_succ, Array.replicate_zero, List.push_toArray, List.append_toArray, List.nil_append, List.cons_append]
  gi_wp2_with (refine ⟨trivial, ?_⟩; gi_at_call 37; refine (segsFn_in Fence.wide _ trivial rfl n s k T P A3 c3 A4 c4 _).mono ?_; rintro e w' ⟨rfl, rfl⟩)
  have HC := Lib.hid h
  have HG := Lib.hid g
  have HL := Lib.hid hl
  clear h g hl
  have hB0 : Below w.heap.size w ((((w.alloc (.cells #[.int .i64 n, .int .i64 s, .int .i64 k, .slice A3 T.length c3, .slice A4 P.length c4] 25)).alloc (.cells #[.slice B live.length d] 32)).alloc (.cells #[.bool false] 4)).alloc (.cells #[.int .i64 n, .int .i64 s, .int .i64 k, .slice A3 T.length c3, .slice A4 P.length c4] 25)) :=
    ((((Below.refl _ w).alloc (Nat.le_refl _) _).alloc (by simp) _).alloc (by simp; omega) _).alloc (by simp; omega) _
  have b0 := blk_alloc (blk_alloc (blk_alloc (heap_alloc_new w (.cells #[.int .i64 n, .int .i64 s, .int .i64 k, .slice A3 T.length c3, .slice A4 P.length c4] 25)) (.cells #[.slice B live.length d] 32)) (.cells #[.bool false] 4)) (.cells #[.int .i64 n, .int .i64 s, .int .i64 k, .slice A3 T.length c3, .slice A4 P.length c4] 25)
  have b1 := ((Boxed.new (w.alloc (.cells #[.int .i64 n, .int .i64 s, .int .i64 k, .slice A3 T.length c3, .slice A4 P.length c4] 25)) 32 (.slice B live.length d)).alloc (.cells #[.bool false] 4)).alloc (.cells #[.int .i64 n, .int .i64 s, .int .i64 k, .slice A3 T.length c3, .slice A4 P.length c4] 25)
  have b2 := (Boxed.new ((w.alloc (.cells #[.int .i64 n, .int .i64 s, .int .i64 k, .slice A3 T.length c3, .slice A4 P.length c4] 25)).alloc (.cells #[.slice B live.length d] 32)) 4 (.bool false)).alloc (.cells #[.int .i64 n, .int .i64 s, .int .i64 k, .slice A3 T.length c3, .slice A4 P.length c4] 25)
  have b3 := heap_alloc_new (((w.alloc (.cells #[.int .i64 n, .int .i64 s, .int .i64 k, .slice A3 T.length c3, .slice A4 P.length c4] 25)).alloc (.cells #[.slice B live.length d] 32)).alloc (.cells #[.bool false] 4)) (.cells #[.int .i64 n, .int .i64 s, .int .i64 k, .slice A3 T.length c3, .slice A4 P.length c4] 25)
  have hsz : ((((w.alloc (.cells #[.int .i64 n, .int .i64 s, .int .i64 k, .slice A3 T.length c3, .slice A4 P.length c4] 25)).alloc (.cells #[.slice B live.length d] 32)).alloc (.cells #[.bool false] 4)).alloc (.cells #[.int .i64 n, .int .i64 s, .int .i64 k, .slice A3 T.length c3, .slice A4 P.length c4] 25)).heap.size = w.heap.size + 4 := by simp
  simp only [World.size_alloc] at b0 b1 b2 b3
  generalize ((((w.alloc (.cells #[.int .i64 n, .int .i64 s, .int .i64 k, .slice A3 T.length c3, .slice A4 P.length c4] 25)).alloc (.cells #[.slice B live.length d] 32)).alloc (.cells #[.bool false] 4)).alloc (.cells #[.int .i64 n, .int .i64 s, .int .i64 k, .slice A3 T.length c3, .slice A4 P.length c4] 25)) = W0 at *
  have c31 := (blk_cell b3 1).trans rfl
  have c34 := (blk_cell b3 4).trans rfl
  refine wpIn_rangeFunc_ownH rfl (by omega) (gf := 62) (lb := #[.pointer (some ⟨w.heap.size + 1 + 1 + 1, 0, none⟩)]) rfl trivial (enters_of Try.func62 (by kernel_rfl) rfl)
    (segs_stops Fence.wide _ trivial rfl (by omega) (w.heap.size + 1 + 1 + 1) s P A4 c4 W0 (by have := HG.out.hs; omega) HG.out.hP (by omega) c31 c34) SameAt.trans (sameAt_b (by omega)) (Below.refl _ _) (fun _ => rfl)
    (fun pre W => ((W.heap[w.heap.size]? = some (.cells #[.int .i64 n, .int .i64 s, .int .i64 k, .slice A3 T.length c3, .slice A4 P.length c4] 25 (0, 0)) ∧ W.heap[w.heap.size + 1 + 1 + 1]? = some (.cells #[.int .i64 n, .int .i64 s, .int .i64 k, .slice A3 T.length c3, .slice A4 P.length c4] 25 (0, 0))) ∧
      (Boxed W (w.heap.size + 1) 32 (.slice B live.length d) ∧ Boxed W (w.heap.size + 1 + 1) 4 (.bool false)) ∧ ∀ y ∈ pre, heldB n s k P live y = true) ∧ Below w.heap.size w W)
    (fun c pre W => (Boxed W (w.heap.size + 1 + 1) 4 (.bool false) ∧ c = .ret ∧ ∃ y ∈ pre, heldB n s k P live y = false) ∧ Below w.heap.size w W)
    (OwnFrom.and (OwnFrom.and (OwnFrom.and (Own.from (blk_own _ _ _) _) (Own.from (blk_own _ _ _) _)) (OwnFrom.and (OwnFrom.and (Own.from (boxed_own _ _ (fun _ => _)) _) (Own.from (boxed_own _ _ (fun _ => _)) _)) (ownFrom_pure _ _))) (ownFrom_below (Nat.le_refl _) (by omega)))
    (fun c => OwnFrom.and (OwnFrom.and (Own.from (boxed_own _ _ (fun _ => _)) _) (ownFrom_pure _ _)) (ownFrom_below (Nat.le_refl _) (by omega)))
    ⟨⟨⟨b0, b3⟩, ⟨b1, b2⟩, by simp⟩, hB0⟩
    (fun y a' W => ∃ Bx, w.heap.size + 3 < Bx ∧ W.heap[Bx]? = some (.cells #[.int .i64 y.f0, .int .i64 y.f1] 31 (0, 0)) ∧ a' = { tmps := #[catV n s k T P A3 c3 A4 c4, .slice B live.length d, .pointer (some ⟨w.heap.size, 0, none⟩), .pointer (some ⟨w.heap.size + 1, 0, none⟩), .pointer (some ⟨w.heap.size + 1 + 1, 0, none⟩), .pointer (some ⟨Bx, 0, none⟩), catV n s k T P A3 c3 A4 c4, .func (.func 62) #[] #[.pointer (some ⟨w.heap.size + 1 + 1 + 1, 0, none⟩)], segV y, undef, undef, undef, undef, undef, undef], defers := [] })
    (fun y a' _ X Y row hs hg hr => by obtain ⟨Bx, h1, h2, h3⟩ := hs; exact ⟨Bx, h1, blk_own Bx _ _ () X Y row h2 hg (fun r e => (hr r e).2), h3⟩)
    ?assign ?body ?done ?stop
  case assign =>
    rintro l pre y W K ⟨⟨⟨hb0, hb3⟩, ⟨hb1, hb2⟩, hall⟩, hB⟩ hK
    gi_wp2
    exact hK _ _ ((KeepsOthers.alloc _ _).from _) (Below.heap_alloc _ _ _ (blk_lt hb3)) ⟨⟨⟨blk_alloc hb0 _, blk_alloc hb3 _⟩, ⟨hb1.alloc _, hb2.alloc _⟩, hall⟩, hB.alloc hB.size _⟩ ⟨W.heap.size, by have := blk_lt hb3; omega, heap_alloc_new W _, rfl⟩
  case body =>
    rintro l pre y a' W hl ⟨r, hr⟩ ⟨⟨⟨hb0, hb3⟩, ⟨hb1, hb2⟩, hall⟩, hB⟩ ⟨Bx, hBx, bX, rfl⟩ hlt
    have HBel := Lib.hid hB
    have H0 := Lib.hid hb0
    have H1 := Lib.hid hb1
    have H2 := Lib.hid hb2
    have H3 := Lib.hid hb3
    have HA := Lib.hid hall
    have z0 := (blk_cell hb0 0).trans rfl
    have z1 := (blk_cell hb0 1).trans rfl
    have z2 := (blk_cell hb0 2).trans rfl
    have z3 := (blk_cell hb0 3).trans rfl
    have z4 := (blk_cell hb0 4).trans rfl
    have x0 := (blk_cell bX 0).trans rfl
    have x1 := (blk_cell bX 1).trans rfl
    clear hB hb0 hb1 hb2 hb3 bX hall b0 b1 b2 b3 c31 c34
    have hd : 1 ≤ 5 - 1 - 1 := by omega
    gi_wp2_with (refine ⟨trivial, ?_⟩; gi_at_call 18; refine (CallsIn.inRound l (callsIn_wide.2 (nodes_calls (n := n) (s := s) (k := k) (T := T) (P := P) (w := W) HG.out (HC.out.below HBel.out) y.f0 y.f1))).mono ?_; rintro e w1 ⟨Av, cv, rfl, hle, hCv, hb⟩; have n1 := pw_cell_below hb H1.out.cell; have Hb := Lib.hid hb; have HCv := Lib.hid hCv; have HN1 := Lib.hid n1; clear hb hCv n1)
    refine ⟨trivial, ?_⟩
    refine (CallsIn.inRound l (callsIn_wide.2 (held_calls n s k P HG.out y Av cv (w.heap.size + 1) B d live w1 HCv.out HN1.out (Kd.C_below (Kd.C_below HL.out HBel.out) Hb.out)))).mono ?_
    rintro e w2 ⟨rfl, hb2⟩
    have HW := Lib.hid (Hb.out.trans (hb2.mono Hb.out.size))
    clear hb2
    have R0 := Lib.hid (blk_below H0.out HW.out)
    have R1 := Lib.hid (show Boxed w2 (w.heap.size + 1) 32 (.slice B live.length d) from blk_below H1.out HW.out)
    have R2 := Lib.hid (show Boxed w2 (w.heap.size + 1 + 1) 4 (.bool false) from blk_below H2.out HW.out)
    have R3 := Lib.hid (blk_below H3.out HW.out)
    have RB := Lib.hid (HBel.out.trans (HW.out.mono HBel.out.size))
    have f2 := R2.out.cell
    have g2 := R2.out.frozen
    clear z0 z1 z2 z3 z4 x0 x1
    cases hh : heldB n s k P live y
    · have HH := Lib.hid hh
      clear hh
      gi_wp2
      exact ⟨(keepsFrom_of_below HW.out).trans ((KeepsOthers.setCell _ _ _).from _), ⟨R2.out.set _, rfl, y, List.mem_append_right _ (List.mem_singleton.2 rfl), HH.out⟩, RB.out.setCell (p := ⟨w.heap.size + 1 + 1, 0, none⟩) (by show w.heap.size ≤ w.heap.size + 1 + 1; omega) _⟩
    · have HH := Lib.hid hh
      clear hh
      gi_wp2
      exact ⟨keepsFrom_of_below HW.out, HW.out.block _ (blk_lt H3.out), ⟨⟨⟨R0.out, R3.out⟩, ⟨R1.out, R2.out⟩, fun z hz => (List.mem_append.1 hz).elim (HA.out z) (fun h => by rw [List.mem_singleton.1 h]; exact HH.out)⟩, RB.out⟩⟩
  case done =>
    rintro D ys W hD rfl ⟨⟨⟨hb0, hb3⟩, ⟨hb1, hb2⟩, hall⟩, hB⟩ hK
    have HF := Lib.hid (covered_yes (live := live) hall)
    have f2 := hb2.cell
    have g2 := hb2.frozen
    have HB := Lib.hid hB
    have H2 := Lib.hid hb2
    have HK := Lib.hid hK
    clear b0 b1 b2 b3 c31 c34 hb0 hb3 hb1 hall hb2 hB hK
    gi_wp2
    have hK' := (KeepsOthers.setCell W ⟨w.heap.size + 1 + 1, 0, none⟩ (.bool true)).same D _ HK.out rfl
    refine ⟨by simp, .inl ⟨_, _, rfl, run_takeDeferred hK', ?_⟩⟩
    have hc5 := cell_kept ((H2.out.set (.bool true)).cell) (grownBy_putObj' _ D (.deferred none)) (fun r e => by cases e; exact ⟨_, hK', rfl⟩)
    refine ⟨.bool true, ?_, by rw [HF.out], (HB.out.setCell (p := ⟨w.heap.size + 1 + 1, 0, none⟩) (by show w.heap.size ≤ w.heap.size + 1 + 1; omega) _).trans (belowK_b (w := w) (Nat.le_refl _) _ D _ _ (by omega) hK' rfl rfl)⟩
    simp [results, Try.f20, go_sem, hc5]
  case stop =>
    rintro D c pre W hD hpre ⟨⟨hb2, rfl, y, hy, hn⟩, hB⟩ hK
    have HF := Lib.hid (covered_no hpre hy hn)
    clear b0 b1 b2 b3 c31 c34
    gi_wp2
    refine ⟨by simp, .inl ⟨_, _, rfl, run_takeDeferred hK, ?_⟩⟩
    have hc5 := cell_kept hb2.cell (grownBy_putObj' _ D (.deferred none)) (fun r e => by cases e; exact ⟨_, hK, rfl⟩)
    refine ⟨.bool false, ?_, by rw [HF.out], hB.trans (belowK_b (w := w) (Nat.le_refl _) W D _ _ (by omega) hK rfl rfl)⟩
    simp [results, Try.f20, go_sem, hc5]
end Go.Proofs.Ytnaaaldeadjohaa.Cat

set_option linter.unusedVariables false
set_option linter.unusedSimpArgs false
namespace Go.Proofs.Ytnaaaldeadjohaa.Cat
open Go.RowKit Go.Shelf Go.Proofs Go.Proofs.YtnaaaldeadjohaaW.PrintWords Go.Proofs.Ytnaaaldeadjohaa.PCatalogLies
/-! ### What Check comes to, case by case -/
def tabAt (T : List S79) (i : Nat) : Bool := tabOk (rd_T79 T i).f0 (rd_T79 T i).f1 && !(anyB (fun j => decide ((rd_T79 T j).f0.toList = (rd_T79 T i).f0.toList)) i)
def projAt (n : Int) (T : List S79) (P : List S66) (i : Nat) : Bool := projOk n T (rd_T66 P i) && !(anyB (fun j => decide ((rd_T66 P j).f0.toList = (rd_T66 P i).f0.toList)) i)
def ofAt (n s k : Int) (P : List S66) (i : Nat) : Bool := !(ofL n s k P i).isEmpty
section
variable {n s k : Int} {T : List S79} {P : List S66}
theorem chk_head (h : headOk n s k = false) : chk n s k T P = 133 := by unfold chk; rw [if_pos h]
theorem headOk_n1 (h : n < 1) : headOk n s k = false := by unfold headOk; rw [decide_eq_false (show ¬ 1 ≤ n by omega)]; rfl
theorem headOk_n8 (h : 8 < n) : headOk n s k = false := by unfold headOk; rw [decide_eq_false (show ¬ n ≤ 8 by omega)]; simp
theorem headOk_k0 (h : k < 0) : headOk n s k = false := by unfold headOk; rw [decide_eq_false (show ¬ 0 ≤ k by omega)]; simp
theorem headOk_kn (h : n ≤ k) : headOk n s k = false := by unfold headOk; rw [decide_eq_false (show ¬ k < n by omega)]; simp
theorem headOk_s1 (h : s < 1) : headOk n s k = false := by unfold headOk; rw [decide_eq_false (show ¬ 1 ≤ s by omega)]; simp
theorem headOk_s8 (h : 8 < s) : headOk n s k = false := by unfold headOk; rw [decide_eq_false (show ¬ s ≤ 8 by omega)]; simp
theorem headOk_yes (h1 : 1 ≤ n) (h2 : n ≤ 8) (h3 : 0 ≤ k) (h4 : k < n) (h5 : 1 ≤ s) (h6 : s ≤ 8) : headOk n s k = true := by
  unfold headOk; rw [decide_eq_true h1, decide_eq_true h2, decide_eq_true h3, decide_eq_true h4, decide_eq_true h5, decide_eq_true h6]; rfl
theorem headOk_iff : headOk n s k = true ↔ (1 ≤ n ∧ n ≤ 8) ∧ (0 ≤ k ∧ k < n) ∧ (1 ≤ s ∧ s ≤ 8) := by
  unfold headOk; simp only [Bool.and_eq_true, decide_eq_true_eq]; omega
theorem chk_len (h : headOk n s k = true) (h1 : T.length < 1 ∨ 4 < T.length) : chk n s k T P = 130 := by
  unfold chk
  rw [if_neg (by rw [h]; decide), if_pos (by rw [Bool.and_eq_false_iff, decide_eq_false_iff_not, decide_eq_false_iff_not]; omega)]
theorem chk_from (h : headOk n s k = true) (h1 : 1 ≤ T.length) (h2 : T.length ≤ 4) : chk n s k T P = if tabsOk T = false then 130 else if 8 < P.length then 131 else if projsOk n T P = false then 131 else if allB (fun i => covB T P i) T.length = false then 132 else if allB (ofAt n s k P) n.toNat = false then 133 else 0 := by
  unfold chk
  rw [if_neg (by rw [h]; decide), if_neg (by rw [decide_eq_true h1, decide_eq_true h2]; decide)]
  rfl
theorem chk_tab (h : headOk n s k = true) (h1 : 1 ≤ T.length) (h2 : T.length ≤ 4) {i : Nat} (hi : i < T.length) (hn : tabAt T i = false) : chk n s k T P = 130 := by
  rw [chk_from h h1 h2, if_pos (show tabsOk T = false from allB_no hi hn)]
theorem tabsOk_yes (h : ∀ i, i < T.length → tabAt T i = true) : tabsOk T = true := allB_iff.2 h
theorem chk_projs (h : headOk n s k = true) (h1 : 1 ≤ T.length) (h2 : T.length ≤ 4) (h3 : tabsOk T = true) (h4 : 8 < P.length) : chk n s k T P = 131 := by
  rw [chk_from h h1 h2, if_neg (by rw [h3]; decide), if_pos h4]
theorem chk_proj (h : headOk n s k = true) (h1 : 1 ≤ T.length) (h2 : T.length ≤ 4) (h3 : tabsOk T = true) (h4 : P.length ≤ 8) {i : Nat} (hi : i < P.length) (hn : projAt n T P i = false) : chk n s k T P = 131 := by
  rw [chk_from h h1 h2, if_neg (by rw [h3]; decide), if_neg (by omega), if_pos (show projsOk n T P = false from allB_no hi hn)]
theorem projsOk_yes (h : ∀ i, i < P.length → projAt n T P i = true) : projsOk n T P = true := allB_iff.2 h
theorem chk_cov (h : headOk n s k = true) (h1 : 1 ≤ T.length) (h2 : T.length ≤ 4) (h3 : tabsOk T = true) (h4 : P.length ≤ 8) (h5 : projsOk n T P = true) {i : Nat} (hi : i < T.length) (hn : covB T P i = false) : chk n s k T P = 132 := by
  rw [chk_from h h1 h2, if_neg (by rw [h3]; decide), if_neg (by omega), if_neg (by rw [h5]; decide), if_pos (allB_no hi hn)]
theorem chk_of (h : headOk n s k = true) (h1 : 1 ≤ T.length) (h2 : T.length ≤ 4) (h3 : tabsOk T = true) (h4 : P.length ≤ 8) (h5 : projsOk n T P = true) (h6 : ∀ i : Nat, i < T.length → covB T P i = true) {i : Nat} (hi : i < n.toNat) (hn : ofAt n s k P i = false) : chk n s k T P = 133 := by
  rw [chk_from h h1 h2, if_neg (by rw [h3]; decide), if_neg (by omega), if_neg (by rw [h5]; decide), if_neg (by rw [allB_iff.2 h6]; decide), if_pos (allB_no hi hn)]
theorem chk_ok (h : headOk n s k = true) (h1 : 1 ≤ T.length) (h2 : T.length ≤ 4) (h3 : tabsOk T = true) (h4 : P.length ≤ 8) (h5 : projsOk n T P = true) (h6 : ∀ i : Nat, i < T.length → covB T P i = true) (h7 : ∀ i, i < n.toNat → ofAt n s k P i = true) : chk n s k T P = 0 := by
  rw [chk_from h h1 h2, if_neg (by rw [h3]; decide), if_neg (by omega), if_neg (by rw [h5]; decide), if_neg (by rw [allB_iff.2 h6]; decide), if_neg (by rw [allB_iff.2 h7]; decide)]
/-- What Check takes. -/
structure Taken (n s k : Int) (T : List S79) (P : List S66) : Prop where
  head : headOk n s k = true
  t1 : 1 ≤ T.length
  t4 : T.length ≤ 4
  tabs : tabsOk T = true
  p8 : P.length ≤ 8
  projs : projsOk n T P = true
  cov : ∀ i : Nat, i < T.length → covB T P i = true
  of_ : ∀ i, i < n.toNat → ofAt n s k P i = true
theorem taken_of (h : chk n s k T P = 0) : Taken n s k T P := by
  unfold chk at h
  split at h
  · cases h
  rename_i a1
  split at h
  · cases h
  rename_i a2
  split at h
  · cases h
  rename_i a3
  split at h
  · cases h
  rename_i a4
  split at h
  · cases h
  rename_i a5
  split at h
  · cases h
  rename_i a6
  split at h
  · cases h
  rename_i a7
  have a2' : (decide (1 ≤ T.length) && decide (T.length ≤ 4)) = true := by simpa using a2
  simp only [Bool.and_eq_true, decide_eq_true_eq] at a2'
  exact ⟨by simpa using a1, a2'.1, a2'.2, by simpa using a3, by omega, by simpa using a5, allB_iff.1 (by simpa using a6), allB_iff.1 (show allB (ofAt n s k P) n.toNat = true from (Bool.not_eq_false _).mp a7)⟩
theorem projAt_ok {i : Nat} (h : projAt n T P i = true) : projOk n T (rd_T66 P i) = true := by unfold projAt at h; simp only [Bool.and_eq_true] at h; exact h.1
theorem tabAt_ok {i : Nat} (h : tabAt T i = true) : tabOk (rd_T79 T i).f0 (rd_T79 T i).f1 = true := by unfold tabAt at h; simp only [Bool.and_eq_true] at h; exact h.1
theorem projOk_parts {p : S66} (h : projOk n T p = true) : (0 ≤ p.f1 ∧ p.f1 < T.length) ∧ (0 ≤ p.f5 ∧ p.f5 < n) ∧ plOk p.f2 (rd_T79 T p.f1).f1.length = true := by
  unfold projOk at h
  simp only [Bool.and_eq_true, decide_eq_true_eq] at h
  obtain ⟨⟨⟨⟨⟨⟨⟨⟨⟨_, h1⟩, h2⟩, _⟩, h3⟩, h4⟩, h5⟩, _⟩, _⟩, _⟩ := h
  exact ⟨⟨h1, h2⟩, ⟨h3, h4⟩, h5⟩
theorem good_of (h : headOk n s k = true) (h4 : P.length ≤ 8) (h5 : projsOk n T P = true) : Good n s k P := by
  obtain ⟨hn, hk, hs⟩ := headOk_iff.1 h
  refine ⟨hn, hk, hs, h4, fun a h0 h1 => ?_⟩
  obtain ⟨i, rfl⟩ := Int.eq_ofNat_of_zero_le h0
  exact (projOk_parts (projAt_ok (allB_iff.1 h5 i (by omega)))).2.1
/-- Unlike places below m are at most m. -/
theorem nodup_le : ∀ (m : Nat) (l : List Int), l.Nodup → (∀ x ∈ l, 0 ≤ x ∧ x < m) → l.length ≤ m := by
  intro m
  induction m with
  | zero =>
    intro l _ h
    cases l with
    | nil => simp
    | cons x l => have := h x (by simp); omega
  | succ m ih =>
    intro l hn h
    have h1 := ih (l.erase (m : Int)) (hn.erase _) (fun x hx => by
      have h2 := h x (List.mem_of_mem_erase hx)
      have h3 : x ≠ (m : Int) := fun e => by subst e; exact (List.Nodup.mem_erase_iff hn).1 hx |>.1 rfl
      omega)
    have h2 := List.length_erase_le (a := (m : Int)) (l := l)
    have h3 : l.length ≤ (l.erase (m : Int)).length + 1 := by
      rw [List.length_erase]; split <;> omega
    omega
theorem plOk_nodup {l : List Int} {m : Int} (h : plOk l m = true) : l.Nodup := by
  rw [List.nodup_iff_pairwise_ne, List.pairwise_iff_getElem]
  intro i j hi hj hij e
  have h1 := allB_iff.1 h j hj
  simp only [Bool.and_eq_true, Bool.not_eq_true'] at h1
  have h2 : (l.take j).contains (rd l j) = true := by
    rw [List.contains_iff_mem, rd_nat l j hj, ← e, List.mem_iff_getElem]
    exact ⟨i, by simp; omega, by simp⟩
  rw [h2] at h1
  exact absurd h1.2 (by decide)
theorem plOk_len {l : List Int} {m : Nat} (h : plOk l m = true) : l.length ≤ m := by
  refine nodup_le m l (plOk_nodup h) (fun x hx => ?_)
  obtain ⟨i, hi, rfl⟩ := List.mem_iff_getElem.1 hx
  have h1 := allB_iff.1 h i hi
  simp only [Bool.and_eq_true, decide_eq_true_eq] at h1
  rw [rd_nat l i hi] at h1
  exact ⟨h1.1.1, h1.1.2⟩
theorem cols_eight (h3 : tabsOk T = true) (h5 : projsOk n T P = true) (a : Nat) (ha : a < P.length) : (rd_T66 P a).f2.length ≤ 8 := by
  obtain ⟨⟨h0, h1⟩, _, hp⟩ := projOk_parts (projAt_ok (allB_iff.1 h5 a ha))
  obtain ⟨i, hi⟩ := Int.eq_ofNat_of_zero_le h0
  have h2 := tabAt_ok (allB_iff.1 h3 i (by omega))
  unfold tabOk at h2
  simp only [Bool.and_eq_true, decide_eq_true_eq] at h2
  rw [← hi] at h2
  exact Nat.le_trans (plOk_len hp) h2.1.2
end
theorem tabs_any (T : List S79) (nm : List UInt8) (i : Nat) (hi : i ≤ T.length) : (T.take i).any (fun x => x.f0.toList == nm) = anyB (fun j => decide ((rd_T79 T j).f0.toList = nm)) i := by
  rw [Bool.eq_iff_iff, List.any_eq_true, anyB_iff]
  constructor
  · rintro ⟨x, hx, h⟩
    obtain ⟨j, hj, rfl⟩ := List.mem_iff_getElem.1 hx
    rw [List.length_take] at hj
    have hj2 : j < T.length := by omega
    exact ⟨j, by omega, by simpa [rd_T79, List.getD_eq_getElem?_getD, hj2] using h⟩
  · rintro ⟨j, hj, h⟩
    have hj2 : j < T.length := by omega
    refine ⟨T[j], List.mem_iff_getElem.2 ⟨j, by simp; omega, by simp⟩, ?_⟩
    simpa [rd_T79, List.getD_eq_getElem?_getD, hj2] using h
theorem projs_any (P : List S66) (nm : List UInt8) (i : Nat) (hi : i ≤ P.length) : (P.take i).any (fun x => x.f0.toList == nm) = anyB (fun j => decide ((rd_T66 P j).f0.toList = nm)) i := by
  rw [Bool.eq_iff_iff, List.any_eq_true, anyB_iff]
  constructor
  · rintro ⟨x, hx, h⟩
    obtain ⟨j, hj, rfl⟩ := List.mem_iff_getElem.1 hx
    rw [List.length_take] at hj
    have hj2 : j < P.length := by omega
    exact ⟨j, by omega, by simpa [rd_T66, List.getD_eq_getElem?_getD, hj2] using h⟩
  · rintro ⟨j, hj, h⟩
    have hj2 : j < P.length := by omega
    refine ⟨P[j], List.mem_iff_getElem.2 ⟨j, by simp; omega, by simp⟩, ?_⟩
    simpa [rd_T66, List.getD_eq_getElem?_getD, hj2] using h
end Go.Proofs.Ytnaaaldeadjohaa.Cat

set_option linter.unusedVariables false
set_option linter.unusedSimpArgs false
namespace Go.Proofs.Ytnaaaldeadjohaa.Cat
open Go.RowKit Go.Shelf Go.Proofs Go.Proofs.YtnaaaldeadjohaaW.PrintWords Go.Proofs.Ytnaaaldeadjohaa.PCatalogLies
/-! ### catalog.Check -/
def dupT (T : List S79) (i : Nat) : Bool := anyB (fun j => decide ((rd_T79 T j).f0.toList = (rd_T79 T i).f0.toList)) i
def dupP (P : List S66) (i : Nat) : Bool := anyB (fun j => decide ((rd_T66 P j).f0.toList = (rd_T66 P i).f0.toList)) i
theorem dupT_calls (T : List S79) (A : Option Addr) (c i b : Nat) (w : World) (hi : i ≤ T.length) (hr : k79.C w A T.length T) (hc : w.cell? ⟨b, 0, none⟩ = some (.string (rd_T79 T i).f0)) :
    Calls Try.prog 28 #[.slice A i c, .func (.func 29) #[] #[.pointer (some ⟨b, 0, none⟩)]] w fun e w' => e = .returned (.bool (dupT T i)) ∧ Below w.heap.size w w' := by
  have h := ContainsFunc_tab 29 #[.pointer (some ⟨b, 0, none⟩)] (enters_of Try.func29 (by kernel_rfl) rfl) A (T.take i) c (fun nm => nm.toList == (rd_T79 T i).f0.toList) w (by rw [List.length_take, Nat.min_eq_left hi]; exact C_take hr i hi) (fun nm v W hW => sameTab nm _ v b W (pw_cell_below hW hc))
  rw [List.length_take, Nat.min_eq_left hi, tabs_any T _ i hi] at h
  exact h
theorem dupP_calls (P : List S66) (A : Option Addr) (c i b : Nat) (w : World) (hi : i ≤ P.length) (hr : k66.C w A P.length P) (hc : w.cell? ⟨b, 0, none⟩ = some (.string (rd_T66 P i).f0)) :
    Calls Try.prog 31 #[.slice A i c, .func (.func 32) #[] #[.pointer (some ⟨b, 0, none⟩)]] w fun e w' => e = .returned (.bool (dupP P i)) ∧ Below w.heap.size w w' := by
  have h := ContainsFunc_proj 32 #[.pointer (some ⟨b, 0, none⟩)] (enters_of Try.func32 (by kernel_rfl) rfl) A (P.take i) c (fun nm => nm.toList == (rd_T66 P i).f0.toList) w (by rw [List.length_take, Nat.min_eq_left hi]; exact C_take hr i hi) (fun nm v1 v2 v3 v4 v5 W hW => sameProj nm _ v1 v2 v3 v4 v5 b W (pw_cell_below hW hc))
  rw [List.length_take, Nat.min_eq_left hi, projs_any P _ i hi] at h
  exact h
theorem tabAt_no1 {T : List S79} {i : Nat} (h : tabOk (rd_T79 T i).f0 (rd_T79 T i).f1 = false) : tabAt T i = false := by unfold tabAt; rw [h]; rfl
theorem tabAt_no2 {T : List S79} {i : Nat} (h : dupT T i = true) : tabAt T i = false := by unfold tabAt; rw [show (anyB (fun j => decide ((rd_T79 T j).f0.toList = (rd_T79 T i).f0.toList)) i) = dupT T i from rfl, h]; simp
theorem tabAt_yes {T : List S79} {i : Nat} (h : tabOk (rd_T79 T i).f0 (rd_T79 T i).f1 = true) (h2 : dupT T i = false) : tabAt T i = true := by unfold tabAt; rw [show (anyB (fun j => decide ((rd_T79 T j).f0.toList = (rd_T79 T i).f0.toList)) i) = dupT T i from rfl, h, h2]; rfl
theorem projAt_no1 {n : Int} {T : List S79} {P : List S66} {i : Nat} (h : projOk n T (rd_T66 P i) = false) : projAt n T P i = false := by unfold projAt; rw [h]; rfl
theorem projAt_no2 {n : Int} {T : List S79} {P : List S66} {i : Nat} (h : dupP P i = true) : projAt n T P i = false := by unfold projAt; rw [show (anyB (fun j => decide ((rd_T66 P j).f0.toList = (rd_T66 P i).f0.toList)) i) = dupP P i from rfl, h]; simp
theorem projAt_yes {n : Int} {T : List S79} {P : List S66} {i : Nat} (h : projOk n T (rd_T66 P i) = true) (h2 : dupP P i = false) : projAt n T P i = true := by unfold projAt; rw [show (anyB (fun j => decide ((rd_T66 P j).f0.toList = (rd_T66 P i).f0.toList)) i) = dupP P i from rfl, h, h2]; rfl
set_option maxHeartbeats 8000000 in
set_option maxRecDepth 100000 in
theorem check_calls (n s k : Int) (T : List S79) (P : List S66) (A3 : Option Addr) (c3 : Nat) (A4 : Option Addr) (c4 : Nat) (w : World) (h : CatR w T P A3 c3 A4 c4) :
    Calls Try.prog 10 #[catV n s k T P A3 c3 A4 c4] w fun e w' => e = .returned (.int .i64 (chk n s k T P)) ∧ Below w.heap.size w w' := by
  have HC := Lib.hid h
  have hT : T.length ≤ 9223372036854775807 := h.rT.2.1
  have hP : P.length ≤ 9223372036854775807 := h.rP.2.1
  have hcT := h.cT
  have hcP := h.cP
  clear h
  have hA := (Below.refl w.heap.size w).alloc (Nat.le_refl _) (.cells #[.int .i64 n, .int .i64 s, .int .i64 k, .slice A3 T.length c3, .slice A4 P.length c4] 25)
  have HA := Lib.hid hA
  have q0 : (w.alloc (.cells #[.int .i64 n, .int .i64 s, .int .i64 k, .slice A3 T.length c3, .slice A4 P.length c4] 25)).cell? ⟨w.heap.size, 0, none⟩ = some (.int .i64 n) := by simp [go_sem]
  have q1 : (w.alloc (.cells #[.int .i64 n, .int .i64 s, .int .i64 k, .slice A3 T.length c3, .slice A4 P.length c4] 25)).cell? ⟨w.heap.size, 1, none⟩ = some (.int .i64 s) := by simp [go_sem]
  have q2 : (w.alloc (.cells #[.int .i64 n, .int .i64 s, .int .i64 k, .slice A3 T.length c3, .slice A4 P.length c4] 25)).cell? ⟨w.heap.size, 2, none⟩ = some (.int .i64 k) := by simp [go_sem]
  have q3 : (w.alloc (.cells #[.int .i64 n, .int .i64 s, .int .i64 k, .slice A3 T.length c3, .slice A4 P.length c4] 25)).cell? ⟨w.heap.size, 3, none⟩ = some (.slice A3 T.length c3) := by simp [go_sem]
  have q4 : (w.alloc (.cells #[.int .i64 n, .int .i64 s, .int .i64 k, .slice A3 T.length c3, .slice A4 P.length c4] 25)).cell? ⟨w.heap.size, 4, none⟩ = some (.slice A4 P.length c4) := by simp [go_sem]
  clear hA
  go_enter Try.func10, Try.ntmps10
  by_cases a1 : n < 1
  · have HF := Lib.hid (chk_head (T := T) (P := P) (headOk_n1 (s := s) (k := k) a1))
    go_wp2
    go_ret
    exact ⟨by rw [HF.out]; rfl, HA.out⟩
  have b1 : decide (n < 1) = false := decide_eq_false a1
  by_cases a2 : 8 < n
  · have HF := Lib.hid (chk_head (T := T) (P := P) (headOk_n8 (s := s) (k := k) a2))
    go_wp2
    go_ret
    exact ⟨by rw [HF.out]; rfl, HA.out⟩
  have b2 : decide (8 < n) = false := decide_eq_false a2
  by_cases a3 : k < 0
  · have HF := Lib.hid (chk_head (T := T) (P := P) (headOk_k0 (n := n) (s := s) a3))
    go_wp2
    go_ret
    exact ⟨by rw [HF.out]; rfl, HA.out⟩
  have b3 : decide (k < 0) = false := decide_eq_false a3
  by_cases a4 : n ≤ k
  · have HF := Lib.hid (chk_head (T := T) (P := P) (headOk_kn (s := s) a4))
    go_wp2
    go_ret
    exact ⟨by rw [HF.out]; rfl, HA.out⟩
  have b4 : decide (n ≤ k) = false := decide_eq_false a4
  by_cases a5 : s < 1
  · have HF := Lib.hid (chk_head (T := T) (P := P) (headOk_s1 (n := n) (k := k) a5))
    go_wp2
    go_ret
    exact ⟨by rw [HF.out]; rfl, HA.out⟩
  have b5 : decide (s < 1) = false := decide_eq_false a5
  by_cases a6 : 8 < s
  · have HF := Lib.hid (chk_head (T := T) (P := P) (headOk_s8 (n := n) (k := k) a6))
    go_wp2
    go_ret
    exact ⟨by rw [HF.out]; rfl, HA.out⟩
  have b6 : decide (8 < s) = false := decide_eq_false a6
  have HD := Lib.hid (headOk_yes (n := n) (s := s) (k := k) (by omega) (by omega) (by omega) (by omega) (by omega) (by omega))
  by_cases a7 : T.length < 1
  · have HF := Lib.hid (chk_len (P := P) HD.out (.inl a7))
    have d : decide ((T.length : Int) < 1) = true := decide_eq_true (by omega)
    clear a7
    go_wp2
    go_ret
    exact ⟨by rw [HF.out]; rfl, HA.out⟩
  have b7 : decide ((T.length : Int) < 1) = false := decide_eq_false (by omega)
  by_cases a8 : 4 < T.length
  · have HF := Lib.hid (chk_len (P := P) HD.out (.inr a8))
    have d : decide ((4 : Int) < (T.length : Int)) = true := decide_eq_true (by omega)
    clear a8 a7
    go_wp2
    go_ret
    exact ⟨by rw [HF.out]; rfl, HA.out⟩
  have b8 : decide ((4 : Int) < (T.length : Int)) = false := decide_eq_false (by omega)
  have t1 : 1 ≤ T.length := by omega
  have t4 : T.length ≤ 4 := by omega
  clear a7 a8
  go_wp2
  generalize w.alloc (.cells #[.int .i64 n, .int .i64 s, .int .i64 k, .slice A3 T.length c3, .slice A4 P.length c4] 25) = W0 at *
  go_loopw [52] (fun v wr => ∃ i : Nat, v = .int .i64 i ∧ i ≤ T.length ∧ Hid (∀ j, j < i → tabAt T j = true) ∧ Hid (Below W0.heap.size W0 wr)) (fun v _ => T.length - (intOf v).toNat)
  case atStart => exact ⟨0, rfl, Nat.zero_le _, Lib.hid (fun j hj => by omega), Lib.hid (Below.refl _ _)⟩
  case round =>
    obtain ⟨i, rfl, hi, HI, HW⟩ := hrel
    obtain ⟨wo, rfl⟩ : ∃ wo : World, wo = wr := ⟨_, rfl⟩
    by_cases hlt : i < T.length
    · have hbw : Below w.heap.size w wo := HA.out.trans (HW.out.mono HA.out.size)
      obtain ⟨ad, B2, d2, e1, hc0, hc1, hl2, hC2⟩ := at_T79 (Kd.C_below HC.out.rT hbw) i (by omega) (by omega)
      simp only [Int.toNat_natCast] at hc0 hc1
      cases e1
      have hA1 := (Below.refl wo.heap.size wo).alloc (Nat.le_refl _) (.cells #[.string (rd_T79 T i).f0, .slice B2 (rd_T79 T i).f1.length d2] 79)
      have HA1 := Lib.hid (HW.out.trans (hA1.mono HW.out.size))
      have q3' := pw_cell_below hA1 (pw_cell_below HW.out q3)
      have x0 : (wo.alloc (.cells #[.string (rd_T79 T i).f0, .slice B2 (rd_T79 T i).f1.length d2] 79)).cell? ⟨wo.heap.size, 0, none⟩ = some (.string (rd_T79 T i).f0) := by simp [go_sem]
      have HC2 := Lib.hid (Kd.C_below hC2 hA1)
      clear hA1 hC2 hbw
      go_wp2_with (fail)
      generalize wo.alloc (.cells #[.string (rd_T79 T i).f0, .slice B2 (rd_T79 T i).f1.length d2] 79) = W1 at *
      clear hc0 hc1
      refine (Table_calls (rd_T79 T i).f0 B2 (rd_T79 T i).f1 d2 _ HC2.out hl2).mono ?_
      rintro e w2 ⟨rfl, hd⟩
      have q3x := pw_cell_below hd q3'
      have x0x := pw_cell_below hd x0
      have HB2 := Lib.hid (HA1.out.trans (hd.mono HA1.out.size))
      clear hd q3' x0
      cases y1 : tabOk (rd_T79 T i).f0 (rd_T79 T i).f1
      · have HF := Lib.hid (chk_tab (P := P) HD.out t1 t4 hlt (tabAt_no1 y1))
        rw [tabErr_no y1]
        clear y1
        go_wp2
        go_ret
        exact ⟨by rw [HF.out]; rfl, HA.out.trans (HB2.out.mono HA.out.size)⟩
      rw [tabErr_yes y1]
      have Y1 := Lib.hid y1
      clear y1
      have hcap : i ≤ c3 := by omega
      go_wp2_with (fail)
      refine (dupT_calls T _ c3 i _ _ hi (Kd.C_below HC.out.rT (HA.out.trans (HB2.out.mono HA.out.size))) x0x).mono ?_
      rintro e w3 ⟨rfl, hd⟩
      have HB3 := Lib.hid (HB2.out.trans (hd.mono HB2.out.size))
      clear hd q3x x0x
      cases y2 : dupT T i
      · have HN := Lib.hid (all_succ (p := tabAt T) HI.out (tabAt_yes Y1.out y2))
        clear y2
        go_wp2
        go_roundw
        case rel => exact ⟨i + 1, by go_num, hlt, HN, HB3⟩
        case measure => simp [intOf]; omega
      · have HF := Lib.hid (chk_tab (P := P) HD.out t1 t4 hlt (tabAt_no2 y2))
        clear y2
        go_wp2
        go_ret
        exact ⟨by rw [HF.out]; rfl, HA.out.trans (HB3.out.mono HA.out.size)⟩
    · obtain rfl : i = T.length := by omega
      have HTS := Lib.hid (tabsOk_yes HI.out)
      have HB0 := Lib.hid (HA.out.trans (HW.out.mono HA.out.size))
      replace q0 := pw_cell_below HW.out q0
      replace q1 := pw_cell_below HW.out q1
      replace q2 := pw_cell_below HW.out q2
      replace q3 := pw_cell_below HW.out q3
      replace q4 := pw_cell_below HW.out q4
      clear HI HW HA
      by_cases a9 : 8 < P.length
      · have HF := Lib.hid (chk_projs HD.out t1 t4 HTS.out a9)
        have d : decide ((8 : Int) < (P.length : Int)) = true := decide_eq_true (by omega)
        clear a9
        go_wp2
        go_ret
        exact ⟨by rw [HF.out]; rfl, HB0.out⟩
      have b9 : decide ((8 : Int) < (P.length : Int)) = false := decide_eq_false (by omega)
      have p8 : P.length ≤ 8 := by omega
      clear a9
      go_wp2
      go_loopw [76] (fun v wr => ∃ i : Nat, v = .int .i64 i ∧ i ≤ P.length ∧ Hid (∀ j, j < i → projAt n T P j = true) ∧ Hid (Below wo.heap.size wo wr)) (fun v _ => P.length - (intOf v).toNat)
      case atStart => exact ⟨0, rfl, Nat.zero_le _, Lib.hid (fun j hj => by omega), Lib.hid (Below.refl _ _)⟩
      case round =>
        obtain ⟨i, rfl, hi, HI, HW⟩ := hrel
        obtain ⟨wp, rfl⟩ : ∃ wp : World, wp = wr := ⟨_, rfl⟩
        by_cases hlt : i < P.length
        · have hbw : Below w.heap.size w wp := HB0.out.trans (HW.out.mono HB0.out.size)
          obtain ⟨ad, B2, d2, B3, d3, e1, hc0, hc1, hc2, hc3, hc4, hc5, hl2, hC2, hl3, hC3⟩ := at_T66 (Kd.C_below HC.out.rP hbw) i (by omega) (by omega)
          simp only [Int.toNat_natCast] at hc0 hc1 hc2 hc3 hc4 hc5
          cases e1
          have hA1 := (Below.refl wp.heap.size wp).alloc (Nat.le_refl _) (.cells #[.string (rd_T66 P i).f0, .int .i64 (rd_T66 P i).f1, .slice B2 (rd_T66 P i).f2.length d2, .slice B3 (rd_T66 P i).f3.length d3, .int .i64 (rd_T66 P i).f4, .int .i64 (rd_T66 P i).f5] 66)
          have HA1 := Lib.hid (HW.out.trans (hA1.mono HW.out.size))
          have q0' := pw_cell_below hA1 (pw_cell_below HW.out q0)
          have q1' := pw_cell_below hA1 (pw_cell_below HW.out q1)
          have q2' := pw_cell_below hA1 (pw_cell_below HW.out q2)
          have q3' := pw_cell_below hA1 (pw_cell_below HW.out q3)
          have q4' := pw_cell_below hA1 (pw_cell_below HW.out q4)
          have x0 : (wp.alloc (.cells #[.string (rd_T66 P i).f0, .int .i64 (rd_T66 P i).f1, .slice B2 (rd_T66 P i).f2.length d2, .slice B3 (rd_T66 P i).f3.length d3, .int .i64 (rd_T66 P i).f4, .int .i64 (rd_T66 P i).f5] 66)).cell? ⟨wp.heap.size, 0, none⟩ = some (.string (rd_T66 P i).f0) := by simp [go_sem]
          have HPR := Lib.hid (show ProjR (wp.alloc (.cells #[.string (rd_T66 P i).f0, .int .i64 (rd_T66 P i).f1, .slice B2 (rd_T66 P i).f2.length d2, .slice B3 (rd_T66 P i).f3.length d3, .int .i64 (rd_T66 P i).f4, .int .i64 (rd_T66 P i).f5] 66)) (rd_T66 P i) B2 d2 B3 d3 from ⟨Kd.C_below hC2 hA1, hl2, Kd.C_below hC3 hA1, hl3⟩)
          have HCW := Lib.hid (HC.out.below (HB0.out.trans (HA1.out.mono HB0.out.size)))
          clear hA1 hC2 hC3 hbw
          go_wp2_with (fail)
          generalize wp.alloc (.cells #[.string (rd_T66 P i).f0, .int .i64 (rd_T66 P i).f1, .slice B2 (rd_T66 P i).f2.length d2, .slice B3 (rd_T66 P i).f3.length d3, .int .i64 (rd_T66 P i).f4, .int .i64 (rd_T66 P i).f5] 66) = W1 at *
          clear hc0 hc1 hc2 hc3 hc4 hc5
          refine (projection_calls n s k T P _ c3 _ c4 (rd_T66 P i) B2 d2 B3 d3 _ HCW.out HPR.out).mono ?_
          rintro e w2 ⟨rfl, hd⟩
          have q4x := pw_cell_below hd q4'
          have x0x := pw_cell_below hd x0
          have HB2 := Lib.hid (HA1.out.trans (hd.mono HA1.out.size))
          clear hd q0' q1' q2' q3' q4' x0
          cases y1 : projOk n T (rd_T66 P i)
          · have HF := Lib.hid (chk_proj HD.out t1 t4 HTS.out p8 hlt (projAt_no1 y1))
            clear y1
            go_wp2
            go_ret
            exact ⟨by rw [HF.out]; rfl, HB0.out.trans (HB2.out.mono HB0.out.size)⟩
          have Y1 := Lib.hid y1
          clear y1
          have hcap : i ≤ c4 := by omega
          go_wp2_with (fail)
          refine (dupP_calls P _ c4 i _ _ hi (Kd.C_below HC.out.rP (HB0.out.trans (HB2.out.mono HB0.out.size))) x0x).mono ?_
          rintro e w3 ⟨rfl, hd⟩
          have HB3 := Lib.hid (HB2.out.trans (hd.mono HB2.out.size))
          clear hd q4x x0x
          cases y2 : dupP P i
          · have HN := Lib.hid (all_succ (p := projAt n T P) HI.out (projAt_yes Y1.out y2))
            clear y2
            go_wp2
            go_roundw
            case rel => exact ⟨i + 1, by go_num, hlt, HN, HB3⟩
            case measure => simp [intOf]; omega
          · have HF := Lib.hid (chk_proj HD.out t1 t4 HTS.out p8 hlt (projAt_no2 y2))
            clear y2
            go_wp2
            go_ret
            exact ⟨by rw [HF.out]; rfl, HB0.out.trans (HB3.out.mono HB0.out.size)⟩
        · obtain rfl : i = P.length := by omega
          have HPS := Lib.hid (projsOk_yes HI.out)
          have HB1 := Lib.hid (HB0.out.trans (HW.out.mono HB0.out.size))
          replace q0 := pw_cell_below HW.out q0
          replace q1 := pw_cell_below HW.out q1
          replace q2 := pw_cell_below HW.out q2
          replace q3 := pw_cell_below HW.out q3
          replace q4 := pw_cell_below HW.out q4
          have HG := Lib.hid (good_of HD.out p8 HPS.out)
          clear HI HW HB0
          go_wp2
          go_loopw [97] (fun v wr => ∃ i : Nat, v = .int .i64 i ∧ i ≤ T.length ∧ Hid (∀ j : Nat, j < i → covB T P j = true) ∧ Hid (Below wp.heap.size wp wr)) (fun v _ => T.length - (intOf v).toNat)
          case atStart => exact ⟨0, rfl, Nat.zero_le _, Lib.hid (fun j hj => by omega), Lib.hid (Below.refl _ _)⟩
          case round =>
            obtain ⟨i, rfl, hi, HI, HW⟩ := hrel
            obtain ⟨wq, rfl⟩ : ∃ wq : World, wq = wr := ⟨_, rfl⟩
            have HCQ := Lib.hid (HC.out.below (HB1.out.trans (HW.out.mono HB1.out.size)))
            have r0 := pw_cell_below HW.out q0
            have r1 := pw_cell_below HW.out q1
            have r2 := pw_cell_below HW.out q2
            have r3 := pw_cell_below HW.out q3
            have r4 := pw_cell_below HW.out q4
            by_cases hlt : i < T.length
            · go_wp2_with (fail)
              refine (covB_calls n s k T P _ c3 _ c4 i _ HCQ.out (by omega) (by omega) (fun a ha => cols_eight HTS.out HPS.out a ha)).mono ?_
              rintro e w2 ⟨rfl, hd⟩
              have HB2 := Lib.hid (HW.out.trans (hd.mono HW.out.size))
              clear hd r0 r1 r2 r3 r4
              cases y1 : covB T P i
              · have HF := Lib.hid (chk_cov HD.out t1 t4 HTS.out p8 HPS.out hlt y1)
                clear y1
                go_wp2
                go_ret
                exact ⟨by rw [HF.out]; rfl, HB1.out.trans (HB2.out.mono HB1.out.size)⟩
              · have HN := Lib.hid (all_succ (p := fun j : Nat => covB T P j) HI.out y1)
                clear y1
                go_wp2
                go_roundw
                case rel => exact ⟨i + 1, by go_num, hlt, HN, HB2⟩
                case measure => simp [intOf]; omega
            · obtain rfl : i = T.length := by omega
              have HB2 := Lib.hid (HB1.out.trans (HW.out.mono HB1.out.size))
              have HCV := HI
              clear q0 q1 q2 q3 q4 HI HW HB1
              obtain ⟨nn, rfl⟩ := Int.eq_ofNat_of_zero_le (show 0 ≤ n by omega)
              go_wp2
              go_loopw [107] (fun v wr => ∃ i : Nat, v = .int .i64 i ∧ i ≤ nn ∧ Hid (∀ j : Nat, j < i → ofAt nn s k P j = true) ∧ Hid (Below wq.heap.size wq wr)) (fun v _ => nn - (intOf v).toNat)
              case atStart => exact ⟨0, rfl, Nat.zero_le _, Lib.hid (fun j hj => by omega), Lib.hid (Below.refl _ _)⟩
              case round =>
                obtain ⟨i, rfl, hi, HI, HW⟩ := hrel
                obtain ⟨wt, rfl⟩ : ∃ wt : World, wt = wr := ⟨_, rfl⟩
                have HCT := Lib.hid (HC.out.below (HB2.out.trans (HW.out.mono HB2.out.size)))
                replace r0 := pw_cell_below HW.out r0
                replace r1 := pw_cell_below HW.out r1
                replace r2 := pw_cell_below HW.out r2
                replace r3 := pw_cell_below HW.out r3
                replace r4 := pw_cell_below HW.out r4
                by_cases hlt : i < nn
                · go_wp2_with (fail)
                  refine (of_calls nn s k T P _ c3 _ c4 i _ HG.out HCT.out).mono ?_
                  rintro e w2 ⟨Av, cv, rfl, hle, hCv, hd⟩
                  have HB3 := Lib.hid (HW.out.trans (hd.mono HW.out.size))
                  have hm := hCv.2.1
                  clear hd r0 r1 r2 r3 r4 hCv
                  cases y1 : ofAt nn s k P i
                  · have HF := Lib.hid (chk_of HD.out t1 t4 HTS.out p8 HPS.out HCV.out (i := i) (by simpa using hlt) y1)
                    have d : (((ofL nn s k P i).length : Int) == 0) = true := by
                      unfold ofAt at y1
                      rw [Bool.not_eq_false', List.isEmpty_iff] at y1
                      rw [y1]; rfl
                    clear y1
                    go_wp2
                    go_ret
                    exact ⟨by rw [HF.out]; rfl, HB2.out.trans (HB3.out.mono HB2.out.size)⟩
                  · have HN := Lib.hid (all_succ (p := ofAt nn s k P) HI.out y1)
                    have d : (((ofL nn s k P i).length : Int) == 0) = false := by
                      unfold ofAt at y1
                      cases hq : ofL nn s k P i with
                      | nil => rw [hq] at y1; cases y1
                      | cons a b => rw [beq_eq_false_iff_ne]; simp; omega
                    clear y1
                    go_wp2
                    go_roundw
                    case rel => exact ⟨i + 1, by go_num, hlt, HN, HB3⟩
                    case measure => simp [intOf]; omega
                · obtain rfl : i = nn := by omega
                  have HF := Lib.hid (chk_ok HD.out t1 t4 HTS.out p8 HPS.out HCV.out (fun j hj => HI.out j (by simpa using hj)))
                  go_wp2
                  go_ret
                  exact ⟨by rw [HF.out]; rfl, HB2.out.trans (HW.out.mono HB2.out.size)⟩
end Go.Proofs.Ytnaaaldeadjohaa.Cat

set_option linter.unusedVariables false
set_option linter.unusedSimpArgs false
namespace Go.Proofs.Ytnaaaldeadjohaa.Cat
open Go.RowKit Go.Shelf Go.Proofs Go.Proofs.YtnaaaldeadjohaaW.PrintWords Go.Proofs.Ytnaaaldeadjohaa.PCatalogLies
/-! ### The reference's Check -/
theorem bool_succ {p : Nat → Bool} {k : Nat} (h : ∀ j, j < k → p j = false) (hk : p k = false) : ∀ j, j < k + 1 → p j = false := fun j hj => by
  rcases Nat.lt_or_ge j k with h1 | h1
  · exact h j h1
  · obtain rfl : j = k := by omega
    exact hk
set_option maxHeartbeats 8000000 in
set_option maxRecDepth 100000 in
theorem check2_calls (n s k : Int) (T : List S79) (P : List S66) (A3 : Option Addr) (c3 : Nat) (A4 : Option Addr) (c4 : Nat) (w : World) (h : CatR w T P A3 c3 A4 c4) :
    Calls Try.prog 11 #[catV n s k T P A3 c3 A4 c4] w fun e w' => e = .returned (.int .i64 (chk n s k T P)) ∧ Below w.heap.size w w' := by
  have HC := Lib.hid h
  have hT : T.length ≤ 9223372036854775807 := h.rT.2.1
  have hP : P.length ≤ 9223372036854775807 := h.rP.2.1
  have hcT := h.cT
  have hcP := h.cP
  clear h
  have hA := (Below.refl w.heap.size w).alloc (Nat.le_refl _) (.cells #[.int .i64 n, .int .i64 s, .int .i64 k, .slice A3 T.length c3, .slice A4 P.length c4] 25)
  have HA := Lib.hid hA
  have q0 : (w.alloc (.cells #[.int .i64 n, .int .i64 s, .int .i64 k, .slice A3 T.length c3, .slice A4 P.length c4] 25)).cell? ⟨w.heap.size, 0, none⟩ = some (.int .i64 n) := by simp [go_sem]
  have q1 : (w.alloc (.cells #[.int .i64 n, .int .i64 s, .int .i64 k, .slice A3 T.length c3, .slice A4 P.length c4] 25)).cell? ⟨w.heap.size, 1, none⟩ = some (.int .i64 s) := by simp [go_sem]
  have q2 : (w.alloc (.cells #[.int .i64 n, .int .i64 s, .int .i64 k, .slice A3 T.length c3, .slice A4 P.length c4] 25)).cell? ⟨w.heap.size, 2, none⟩ = some (.int .i64 k) := by simp [go_sem]
  have q3 : (w.alloc (.cells #[.int .i64 n, .int .i64 s, .int .i64 k, .slice A3 T.length c3, .slice A4 P.length c4] 25)).cell? ⟨w.heap.size, 3, none⟩ = some (.slice A3 T.length c3) := by simp [go_sem]
  have q4 : (w.alloc (.cells #[.int .i64 n, .int .i64 s, .int .i64 k, .slice A3 T.length c3, .slice A4 P.length c4] 25)).cell? ⟨w.heap.size, 4, none⟩ = some (.slice A4 P.length c4) := by simp [go_sem]
  clear hA
  go_enter Try.func11, Try.ntmps11
  by_cases a1 : n < 1
  · have HF := Lib.hid (chk_head (T := T) (P := P) (headOk_n1 (s := s) (k := k) a1))
    go_wp2
    go_ret
    exact ⟨by rw [HF.out]; rfl, HA.out⟩
  have b1 : decide (n < 1) = false := decide_eq_false a1
  by_cases a2 : 8 < n
  · have HF := Lib.hid (chk_head (T := T) (P := P) (headOk_n8 (s := s) (k := k) a2))
    go_wp2
    go_ret
    exact ⟨by rw [HF.out]; rfl, HA.out⟩
  have b2 : decide (8 < n) = false := decide_eq_false a2
  by_cases a3 : k < 0
  · have HF := Lib.hid (chk_head (T := T) (P := P) (headOk_k0 (n := n) (s := s) a3))
    go_wp2
    go_ret
    exact ⟨by rw [HF.out]; rfl, HA.out⟩
  have b3 : decide (k < 0) = false := decide_eq_false a3
  by_cases a4 : n ≤ k
  · have HF := Lib.hid (chk_head (T := T) (P := P) (headOk_kn (s := s) a4))
    go_wp2
    go_ret
    exact ⟨by rw [HF.out]; rfl, HA.out⟩
  have b4 : decide (n ≤ k) = false := decide_eq_false a4
  by_cases a5 : s < 1
  · have HF := Lib.hid (chk_head (T := T) (P := P) (headOk_s1 (n := n) (k := k) a5))
    go_wp2
    go_ret
    exact ⟨by rw [HF.out]; rfl, HA.out⟩
  have b5 : decide (s < 1) = false := decide_eq_false a5
  by_cases a6 : 8 < s
  · have HF := Lib.hid (chk_head (T := T) (P := P) (headOk_s8 (n := n) (k := k) a6))
    go_wp2
    go_ret
    exact ⟨by rw [HF.out]; rfl, HA.out⟩
  have b6 : decide (8 < s) = false := decide_eq_false a6
  have HD := Lib.hid (headOk_yes (n := n) (s := s) (k := k) (by omega) (by omega) (by omega) (by omega) (by omega) (by omega))
  by_cases a7 : T.length < 1
  · have HF := Lib.hid (chk_len (P := P) HD.out (.inl a7))
    have d : ((T.length : Int) == 0) = true := beq_iff_eq.2 (by omega)
    clear a7
    go_wp2
    go_ret
    exact ⟨by rw [HF.out]; rfl, HA.out⟩
  have b7 : ((T.length : Int) == 0) = false := beq_eq_false_iff_ne.2 (by omega)
  by_cases a8 : 4 < T.length
  · have HF := Lib.hid (chk_len (P := P) HD.out (.inr a8))
    have d : decide ((4 : Int) < (T.length : Int)) = true := decide_eq_true (by omega)
    clear a8 a7
    go_wp2
    go_ret
    exact ⟨by rw [HF.out]; rfl, HA.out⟩
  have b8 : decide ((4 : Int) < (T.length : Int)) = false := decide_eq_false (by omega)
  have t1 : 1 ≤ T.length := by omega
  have t4 : T.length ≤ 4 := by omega
  clear a7 a8
  go_wp2
  generalize w.alloc (.cells #[.int .i64 n, .int .i64 s, .int .i64 k, .slice A3 T.length c3, .slice A4 P.length c4] 25) = W0 at *
  go_loopw [3] (fun v wr => ∃ i : Nat, v = .int .i64 i ∧ i ≤ T.length ∧ Hid (∀ j, j < i → tabAt T j = true) ∧ Hid (Below W0.heap.size W0 wr)) (fun v _ => T.length - (intOf v).toNat)
  case atStart => exact ⟨0, rfl, Nat.zero_le _, Lib.hid (fun j hj => by omega), Lib.hid (Below.refl _ _)⟩
  case round =>
    obtain ⟨i, rfl, hi, HI, HW⟩ := hrel
    obtain ⟨wo, rfl⟩ : ∃ wo : World, wo = wr := ⟨_, rfl⟩
    have q3' := pw_cell_below HW.out q3
    by_cases hlt : i < T.length
    · have hbw : Below w.heap.size w wo := HA.out.trans (HW.out.mono HA.out.size)
      obtain ⟨ad, B2, d2, e1, hc0, hc1, hl2, hC2⟩ := at_T79 (Kd.C_below HC.out.rT hbw) i (by omega) (by omega)
      simp only [Int.toNat_natCast] at hc0 hc1
      cases e1
      have HC2 := Lib.hid hC2
      clear hC2 hbw
      go_wp2_with (fail)
      refine (Table2_calls (rd_T79 T i).f0 B2 (rd_T79 T i).f1 d2 _ HC2.out hl2).mono ?_
      rintro e w2 ⟨rfl, hd⟩
      have q3x := pw_cell_below hd q3'
      have HB2 := Lib.hid (HW.out.trans (hd.mono HW.out.size))
      clear hd q3' hc0 hc1
      cases y1 : tabOk (rd_T79 T i).f0 (rd_T79 T i).f1
      · have HF := Lib.hid (chk_tab (P := P) HD.out t1 t4 hlt (tabAt_no1 y1))
        rw [tabErr_no y1]
        clear y1
        go_wp2
        go_ret
        exact ⟨by rw [HF.out]; rfl, HA.out.trans (HB2.out.mono HA.out.size)⟩
      rw [tabErr_yes y1]
      have Y1 := Lib.hid y1
      clear y1
      go_wp2
      go_loopw [4] (fun v wr => ∃ j : Nat, v = .int .i64 j ∧ j ≤ i ∧ Hid (∀ m, m < j → decide ((rd_T79 T m).f0.toList = (rd_T79 T i).f0.toList) = false) ∧ Hid (Below w2.heap.size w2 wr)) (fun v _ => i - (intOf v).toNat)
      case atStart => exact ⟨0, rfl, Nat.zero_le _, Lib.hid (fun j hj => by omega), Lib.hid (Below.refl _ _)⟩
      case round =>
        obtain ⟨j, rfl, hj, HJ, HV⟩ := hrel
        obtain ⟨wp, rfl⟩ : ∃ wp : World, wp = wr := ⟨_, rfl⟩
        have HB3 := Lib.hid (HB2.out.trans (HV.out.mono HB2.out.size))
        have q3y := pw_cell_below HV.out q3x
        by_cases hlj : j < i
        · have hbw : Below w.heap.size w wp := HA.out.trans (HB3.out.mono HA.out.size)
          obtain ⟨ad1, _, _, e1, hc0, _, _, _⟩ := at_T79 (Kd.C_below HC.out.rT hbw) i (by omega) (by omega)
          cases e1
          obtain ⟨ad1, _, _, e1, hd0, _, _, _⟩ := at_T79 (Kd.C_below HC.out.rT hbw) j (by omega) (by omega)
          cases e1
          simp only [Int.toNat_natCast] at hc0 hd0
          have hjt : j < T.length := by omega
          have HN := Lib.hid (fun h => bool_succ (p := fun m => decide ((rd_T79 T m).f0.toList = (rd_T79 T i).f0.toList)) HJ.out (k := j) h)
          have HY := Lib.hid (fun h => anyB_yes (p := fun m => decide ((rd_T79 T m).f0.toList = (rd_T79 T i).f0.toList)) hlj h)
          clear hbw
          generalize hx : (rd_T79 T i).f0 = x at *
          generalize hy : (rd_T79 T j).f0 = y at *
          have HX := Lib.hid hx
          have HYY := Lib.hid hy
          clear hx hy
          cases hne : (y.toList == x.toList)
          · have HN1 := Lib.hid (HN.out (decide_eq_false (beq_eq_false_iff_ne.1 hne)))
            go_wp2
            go_quiet (fail)
            go_wp2
            go_roundw
            case rel => exact ⟨j + 1, by go_num, hlj, HN1, Lib.hid (pw_below_drewN HV.out nq)⟩
            case measure => simp [intOf]; omega
          · have HF := Lib.hid (chk_tab (P := P) HD.out t1 t4 hlt (tabAt_no2 (show dupT T i = true by
              unfold dupT; rw [HX.out]; exact HY.out (decide_eq_true (beq_iff_eq.1 hne)))))
            go_wp2
            go_quiet (fail)
            go_wp2
            go_ret
            exact ⟨by rw [HF.out]; rfl, HA.out.trans (pw_below_drewN (HB3.out.mono HA.out.size) nq)⟩
        · obtain rfl : j = i := by omega
          have HN := Lib.hid (all_succ (p := tabAt T) HI.out (tabAt_yes Y1.out (show dupT T j = false from anyB_no HJ.out)))
          go_wp2
          go_roundw
          case rel => exact ⟨j + 1, by go_num, hlt, HN, HB3⟩
          case measure => simp [intOf]; omega
    · obtain rfl : i = T.length := by omega
      have HTS := Lib.hid (tabsOk_yes HI.out)
      have HB0 := Lib.hid (HA.out.trans (HW.out.mono HA.out.size))
      replace q0 := pw_cell_below HW.out q0
      replace q1 := pw_cell_below HW.out q1
      replace q2 := pw_cell_below HW.out q2
      replace q3 := q3'
      replace q4 := pw_cell_below HW.out q4
      clear HI HW HA
      by_cases a9 : 8 < P.length
      · have HF := Lib.hid (chk_projs HD.out t1 t4 HTS.out a9)
        have d : decide ((8 : Int) < (P.length : Int)) = true := decide_eq_true (by omega)
        clear a9
        go_wp2
        go_ret
        exact ⟨by rw [HF.out]; rfl, HB0.out⟩
      have b9 : decide ((8 : Int) < (P.length : Int)) = false := decide_eq_false (by omega)
      have p8 : P.length ≤ 8 := by omega
      clear a9
      go_wp2
      go_loopw [5] (fun v wr => ∃ i : Nat, v = .int .i64 i ∧ i ≤ P.length ∧ Hid (∀ j, j < i → projAt n T P j = true) ∧ Hid (Below wo.heap.size wo wr)) (fun v _ => P.length - (intOf v).toNat)
      case atStart => exact ⟨0, rfl, Nat.zero_le _, Lib.hid (fun j hj => by omega), Lib.hid (Below.refl _ _)⟩
      case round =>
        obtain ⟨i, rfl, hi, HI, HW⟩ := hrel
        obtain ⟨wp, rfl⟩ : ∃ wp : World, wp = wr := ⟨_, rfl⟩
        have r0 := pw_cell_below HW.out q0
        have r1 := pw_cell_below HW.out q1
        have r2 := pw_cell_below HW.out q2
        have r3 := pw_cell_below HW.out q3
        have r4 := pw_cell_below HW.out q4
        by_cases hlt : i < P.length
        · have hbw : Below w.heap.size w wp := HB0.out.trans (HW.out.mono HB0.out.size)
          obtain ⟨ad, B2, d2, B3, d3, e1, hc0, hc1, hc2, hc3, hc4, hc5, hl2, hC2, hl3, hC3⟩ := at_T66 (Kd.C_below HC.out.rP hbw) i (by omega) (by omega)
          simp only [Int.toNat_natCast] at hc0 hc1 hc2 hc3 hc4 hc5
          cases e1
          have HPR := Lib.hid (show ProjR wp (rd_T66 P i) B2 d2 B3 d3 from ⟨hC2, hl2, hC3, hl3⟩)
          have HCW := Lib.hid (HC.out.below hbw)
          clear hC2 hC3 hbw
          have HBN := Lib.hid (Below.refl wp.heap.size wp)
          have HBD := Lib.hid (show Below wp.heap.size wp wp.drew from (Below.refl _ wp).drew)
          have HS := Lib.hid (show ∀ w', Below wp.heap.size wp w' → (w'.cell? ⟨w.heap.size, 0, none⟩ = some (.int .i64 n) ∧ w'.cell? ⟨w.heap.size, 1, none⟩ = some (.int .i64 s) ∧ w'.cell? ⟨w.heap.size, 2, none⟩ = some (.int .i64 k) ∧ w'.cell? ⟨w.heap.size, 3, none⟩ = some (.slice A3 T.length c3) ∧ w'.cell? ⟨w.heap.size, 4, none⟩ = some (.slice (some ad) P.length c4) ∧
            w'.cell? (ad.add (i * 6)) = some (.string (rd_T66 P i).f0) ∧ w'.cell? ⟨(ad.add (i * 6)).block, (ad.add (i * 6)).off + 1, none⟩ = some (.int .i64 (rd_T66 P i).f1) ∧ w'.cell? ⟨(ad.add (i * 6)).block, (ad.add (i * 6)).off + 2, none⟩ = some (.slice B2 (rd_T66 P i).f2.length d2) ∧ w'.cell? ⟨(ad.add (i * 6)).block, (ad.add (i * 6)).off + 3, none⟩ = some (.slice B3 (rd_T66 P i).f3.length d3) ∧ w'.cell? ⟨(ad.add (i * 6)).block, (ad.add (i * 6)).off + 4, none⟩ = some (.int .i64 (rd_T66 P i).f4) ∧ w'.cell? ⟨(ad.add (i * 6)).block, (ad.add (i * 6)).off + 5, none⟩ = some (.int .i64 (rd_T66 P i).f5)) from
            fun w' hb => ⟨pw_cell_below hb r0, pw_cell_below hb r1, pw_cell_below hb r2, pw_cell_below hb r3, pw_cell_below hb r4, pw_cell_below hb hc0, pw_cell_below hb hc1, pw_cell_below hb hc2, pw_cell_below hb hc3, pw_cell_below hb hc4, pw_cell_below hb hc5⟩)
          go_wp2
          go_region_held3 (fun w' => w'.cell? ⟨w.heap.size, 0, none⟩ = some (.int .i64 n) ∧ w'.cell? ⟨w.heap.size, 1, none⟩ = some (.int .i64 s) ∧ w'.cell? ⟨w.heap.size, 2, none⟩ = some (.int .i64 k) ∧ w'.cell? ⟨w.heap.size, 3, none⟩ = some (.slice A3 T.length c3) ∧ w'.cell? ⟨w.heap.size, 4, none⟩ = some (.slice (some ad) P.length c4) ∧
            w'.cell? (ad.add (i * 6)) = some (.string (rd_T66 P i).f0) ∧ w'.cell? ⟨(ad.add (i * 6)).block, (ad.add (i * 6)).off + 1, none⟩ = some (.int .i64 (rd_T66 P i).f1) ∧ w'.cell? ⟨(ad.add (i * 6)).block, (ad.add (i * 6)).off + 2, none⟩ = some (.slice B2 (rd_T66 P i).f2.length d2) ∧ w'.cell? ⟨(ad.add (i * 6)).block, (ad.add (i * 6)).off + 3, none⟩ = some (.slice B3 (rd_T66 P i).f3.length d3) ∧ w'.cell? ⟨(ad.add (i * 6)).block, (ad.add (i * 6)).off + 4, none⟩ = some (.int .i64 (rd_T66 P i).f4) ∧ w'.cell? ⟨(ad.add (i * 6)).block, (ad.add (i * 6)).off + 5, none⟩ = some (.int .i64 (rd_T66 P i).f5))
            (first | exact HS.out _ HBN.out | exact HS.out _ HBD.out)
            ((go_at_call 35; refine (projection2_calls n s k T P _ c3 _ c4 (rd_T66 P i) B2 d2 B3 d3 _ (HCW.out.below HBD.out) (HPR.out.below HBD.out)).mono ?_; rintro e w2 ⟨rfl, hb⟩; have HBN5 := Lib.hid (HBD.out.trans (hb.mono HBD.out.size)); clear HBN; have HBN := HBN5; clear HBN5 hb))
          have HB2 := Lib.hid (HW.out.trans (HBN.out.mono HW.out.size))
          clear r0 r1 r2 r3 r4 hc0 hc1 hc2 hc3 hc4 hc5 HS
          have r3 := pw_cell_below HB2.out q3
          have r4 := pw_cell_below HB2.out q4
          cases y1 : projOk n T (rd_T66 P i)
          · have HF := Lib.hid (chk_proj HD.out t1 t4 HTS.out p8 hlt (projAt_no1 y1))
            clear y1
            go_wp2
            go_ret
            exact ⟨by rw [HF.out]; rfl, HB0.out.trans (HB2.out.mono HB0.out.size)⟩
          have Y1 := Lib.hid y1
          clear y1
          go_wp2
          go_loopw [7] (fun v wr => ∃ j : Nat, v = .int .i64 j ∧ j ≤ i ∧ Hid (∀ m, m < j → decide ((rd_T66 P m).f0.toList = (rd_T66 P i).f0.toList) = false) ∧ Hid (Below w2.heap.size w2 wr)) (fun v _ => i - (intOf v).toNat)
          case atStart => exact ⟨0, rfl, Nat.zero_le _, Lib.hid (fun j hj => by omega), Lib.hid (Below.refl _ _)⟩
          case round =>
            obtain ⟨j, rfl, hj, HJ, HV⟩ := hrel
            obtain ⟨wq, rfl⟩ : ∃ wq : World, wq = wr := ⟨_, rfl⟩
            have HB3 := Lib.hid (HB2.out.trans (HV.out.mono HB2.out.size))
            have q4y := pw_cell_below HV.out r4
            by_cases hlj : j < i
            · have hbw : Below w.heap.size w wq := HB0.out.trans (HB3.out.mono HB0.out.size)
              obtain ⟨ad1, _, _, _, _, e1, hc0, _⟩ := at_T66 (Kd.C_below HC.out.rP hbw) i (by omega) (by omega)
              cases e1
              obtain ⟨ad1, _, _, _, _, e1, hd0, _⟩ := at_T66 (Kd.C_below HC.out.rP hbw) j (by omega) (by omega)
              cases e1
              simp only [Int.toNat_natCast] at hc0 hd0
              have hjt : j < P.length := by omega
              have HN := Lib.hid (fun h => bool_succ (p := fun m => decide ((rd_T66 P m).f0.toList = (rd_T66 P i).f0.toList)) HJ.out (k := j) h)
              have HY := Lib.hid (fun h => anyB_yes (p := fun m => decide ((rd_T66 P m).f0.toList = (rd_T66 P i).f0.toList)) hlj h)
              clear hbw
              generalize hx : (rd_T66 P i).f0 = x at *
              generalize hy : (rd_T66 P j).f0 = y at *
              have HX := Lib.hid hx
              have HYY := Lib.hid hy
              clear hx hy
              cases hne : (y.toList == x.toList)
              · have HN1 := Lib.hid (HN.out (decide_eq_false (beq_eq_false_iff_ne.1 hne)))
                go_wp2
                go_quiet (fail)
                go_wp2
                go_roundw
                case rel => exact ⟨j + 1, by go_num, hlj, HN1, Lib.hid (pw_below_drewN HV.out nq)⟩
                case measure => simp [intOf]; omega
              · have HF := Lib.hid (chk_proj HD.out t1 t4 HTS.out p8 hlt (projAt_no2 (show dupP P i = true by
                  unfold dupP; rw [HX.out]; exact HY.out (decide_eq_true (beq_iff_eq.1 hne)))))
                go_wp2
                go_quiet (fail)
                go_wp2
                go_ret
                exact ⟨by rw [HF.out]; rfl, HB0.out.trans (pw_below_drewN (HB3.out.mono HB0.out.size) nq)⟩
            · obtain rfl : j = i := by omega
              have HN := Lib.hid (all_succ (p := projAt n T P) HI.out (projAt_yes Y1.out (show dupP P j = false from anyB_no HJ.out)))
              go_wp2
              go_roundw
              case rel => exact ⟨j + 1, by go_num, hlt, HN, HB3⟩
              case measure => simp [intOf]; omega
        · obtain rfl : i = P.length := by omega
          have HPS := Lib.hid (projsOk_yes HI.out)
          have HB1 := Lib.hid (HB0.out.trans (HW.out.mono HB0.out.size))
          clear q0 q1 q2 q3 q4
          have HG := Lib.hid (good_of HD.out p8 HPS.out)
          clear HI HW HB0
          go_wp2
          go_loopw [8] (fun v wr => ∃ i : Nat, v = .int .i64 i ∧ i ≤ T.length ∧ Hid (∀ j : Nat, j < i → covB T P j = true) ∧ Hid (Below wp.heap.size wp wr)) (fun v _ => T.length - (intOf v).toNat)
          case atStart => exact ⟨0, rfl, Nat.zero_le _, Lib.hid (fun j hj => by omega), Lib.hid (Below.refl _ _)⟩
          case round =>
            obtain ⟨i, rfl, hi, HI, HW⟩ := hrel
            obtain ⟨wq, rfl⟩ : ∃ wq : World, wq = wr := ⟨_, rfl⟩
            have HCQ := Lib.hid (HC.out.below (HB1.out.trans (HW.out.mono HB1.out.size)))
            replace r0 := pw_cell_below HW.out r0
            replace r1 := pw_cell_below HW.out r1
            replace r2 := pw_cell_below HW.out r2
            replace r3 := pw_cell_below HW.out r3
            replace r4 := pw_cell_below HW.out r4
            by_cases hlt : i < T.length
            · go_wp2_with (fail)
              refine (covB2_calls (n := n) (s := s) (k := k) HCQ.out i (by omega) (by omega)).mono ?_
              rintro e w2 ⟨rfl, hd⟩
              have HB2 := Lib.hid (HW.out.trans (hd.mono HW.out.size))
              clear hd r0 r1 r2 r3 r4
              cases y1 : covB T P i
              · have HF := Lib.hid (chk_cov HD.out t1 t4 HTS.out p8 HPS.out hlt y1)
                clear y1
                go_wp2
                go_ret
                exact ⟨by rw [HF.out]; rfl, HB1.out.trans (HB2.out.mono HB1.out.size)⟩
              · have HN := Lib.hid (all_succ (p := fun j : Nat => covB T P j) HI.out y1)
                clear y1
                go_wp2
                go_roundw
                case rel => exact ⟨i + 1, by go_num, hlt, HN, HB2⟩
                case measure => simp [intOf]; omega
            · obtain rfl : i = T.length := by omega
              have HB2 := Lib.hid (HB1.out.trans (HW.out.mono HB1.out.size))
              have HCV := HI
              clear HI HW HB1
              obtain ⟨nn, rfl⟩ := Int.eq_ofNat_of_zero_le (show 0 ≤ n by omega)
              go_wp2
              go_loopw [10] (fun v wr => ∃ i : Nat, v = .int .i64 i ∧ i ≤ nn ∧ Hid (∀ j : Nat, j < i → ofAt nn s k P j = true) ∧ Hid (Below wq.heap.size wq wr)) (fun v _ => nn - (intOf v).toNat)
              case atStart => exact ⟨0, rfl, Nat.zero_le _, Lib.hid (fun j hj => by omega), Lib.hid (Below.refl _ _)⟩
              case round =>
                obtain ⟨i, rfl, hi, HI, HW⟩ := hrel
                obtain ⟨wt, rfl⟩ : ∃ wt : World, wt = wr := ⟨_, rfl⟩
                have HCT := Lib.hid (HC.out.below (HB2.out.trans (HW.out.mono HB2.out.size)))
                replace r0 := pw_cell_below HW.out r0
                replace r1 := pw_cell_below HW.out r1
                replace r2 := pw_cell_below HW.out r2
                replace r3 := pw_cell_below HW.out r3
                replace r4 := pw_cell_below HW.out r4
                by_cases hlt : i < nn
                · go_wp2_with (fail)
                  refine (of2_calls HG.out HCT.out i).mono ?_
                  rintro e w2 ⟨Av, cv, rfl, hle, hCv, hd⟩
                  have HB3 := Lib.hid (HW.out.trans (hd.mono HW.out.size))
                  have hm := hCv.2.1
                  clear hd r0 r1 r2 r3 r4 hCv
                  cases y1 : ofAt nn s k P i
                  · have HF := Lib.hid (chk_of HD.out t1 t4 HTS.out p8 HPS.out HCV.out (i := i) (by simpa using hlt) y1)
                    have d : (((ofL nn s k P i).length : Int) == 0) = true := by
                      unfold ofAt at y1
                      rw [Bool.not_eq_false', List.isEmpty_iff] at y1
                      rw [y1]; rfl
                    clear y1
                    go_wp2
                    go_ret
                    exact ⟨by rw [HF.out]; rfl, HB2.out.trans (HB3.out.mono HB2.out.size)⟩
                  · have HN := Lib.hid (all_succ (p := ofAt nn s k P) HI.out y1)
                    have d : (((ofL nn s k P i).length : Int) == 0) = false := by
                      unfold ofAt at y1
                      cases hq : ofL nn s k P i with
                      | nil => rw [hq] at y1; cases y1
                      | cons a b => rw [beq_eq_false_iff_ne]; simp; omega
                    clear y1
                    go_wp2
                    go_roundw
                    case rel => exact ⟨i + 1, by go_num, hlt, HN, HB3⟩
                    case measure => simp [intOf]; omega
                · obtain rfl : i = nn := by omega
                  have HF := Lib.hid (chk_ok HD.out t1 t4 HTS.out p8 HPS.out HCV.out (fun j hj => HI.out j (by simpa using hj)))
                  go_wp2
                  go_ret
                  exact ⟨by rw [HF.out]; rfl, HB2.out.trans (HW.out.mono HB2.out.size)⟩
end Go.Proofs.Ytnaaaldeadjohaa.Cat

set_option linter.unusedVariables false
set_option linter.unusedSimpArgs false
namespace Go.Proofs.Ytnaaaldeadjohaa.Cat
open Go.RowKit Go.Shelf Go.Proofs Go.Proofs.YtnaaaldeadjohaaW.PrintWords Go.Proofs.Ytnaaaldeadjohaa.PCatalogLies
/-! ### alive, and segments of the laws -/
theorem C_one {α : Type} {d : Kd α} {w : World} {g : Nat} {x : α} {cs : List Value} (hK : d.K w x cs) (hc : ∀ i u, cs[i]? = some u → w.cell? ⟨g, i, none⟩ = some u) : d.C w (some ⟨g, 0, none⟩) 1 [x] := by
  refine ⟨rfl, by omega, fun _ => ⟨_, rfl, fun j p hj => ?_⟩⟩
  rcases j with _ | j
  · obtain rfl : x = p := by simpa using hj
    refine ⟨cs, d.K_len hK, hK, fun i u hu => ?_⟩
    rw [add_plain]; simpa using hc i u hu
  · simp at hj
def Tl : List S79 := [⟨⟨#[116]⟩, [⟨⟨#[97]⟩, 2, false⟩]⟩]
def Pl : List S66 := [⟨⟨#[112]⟩, 0, [0], [], 0, 2⟩]
theorem lit_chk : chk 3 2 1 Tl Pl = 0 := by decide
theorem lit_nodes : nodesL 3 2 1 Pl 0 1 = [0, 1] := by decide
theorem lit_cov : covered 3 2 1 Pl [true, false, false] = true := by decide
theorem C_none {α : Type} (d : Kd α) (w : World) (A : Option Addr) : d.C w A 0 [] := ⟨rfl, by omega, fun h => absurd h (by omega)⟩
theorem lit_catR (w : World) : CatR (((((w.alloc (.cells #[.string ⟨#[97]⟩, .int .i64 2, .bool false] 76)).alloc (.cells #[.string ⟨#[116]⟩, .slice (some ⟨w.heap.size, 0, none⟩) 1 1] 79)).alloc (.cells #[.int .i64 0] 3)).alloc (.cells #[.string ⟨#[112]⟩, .int .i64 0, .slice (some ⟨w.heap.size + 1 + 1, 0, none⟩) 1 1, .slice none 0 0, .int .i64 0, .int .i64 2] 66)).alloc (.cells #[.int .i64 3, .int .i64 2, .int .i64 1, .slice (some ⟨w.heap.size + 1, 0, none⟩) 1 1, .slice (some ⟨w.heap.size + 1 + 1 + 1, 0, none⟩) 1 1] 25)) Tl Pl (some ⟨w.heap.size + 1, 0, none⟩) 1 (some ⟨w.heap.size + 1 + 1 + 1, 0, none⟩) 1 := by
  have c76 : k76.C (((((w.alloc (.cells #[.string ⟨#[97]⟩, .int .i64 2, .bool false] 76)).alloc (.cells #[.string ⟨#[116]⟩, .slice (some ⟨w.heap.size, 0, none⟩) 1 1] 79)).alloc (.cells #[.int .i64 0] 3)).alloc (.cells #[.string ⟨#[112]⟩, .int .i64 0, .slice (some ⟨w.heap.size + 1 + 1, 0, none⟩) 1 1, .slice none 0 0, .int .i64 0, .int .i64 2] 66)).alloc (.cells #[.int .i64 3, .int .i64 2, .int .i64 1, .slice (some ⟨w.heap.size + 1, 0, none⟩) 1 1, .slice (some ⟨w.heap.size + 1 + 1 + 1, 0, none⟩) 1 1] 25)) (some ⟨w.heap.size, 0, none⟩) 1 [⟨⟨#[97]⟩, 2, false⟩] := C_one (k76_mk _ _) (fun i u h => by rcases i with _ | _ | _ | i <;> simp at h <;> subst h <;> simp [go_sem])
  have c3 : (Kd.int .i64).C (((((w.alloc (.cells #[.string ⟨#[97]⟩, .int .i64 2, .bool false] 76)).alloc (.cells #[.string ⟨#[116]⟩, .slice (some ⟨w.heap.size, 0, none⟩) 1 1] 79)).alloc (.cells #[.int .i64 0] 3)).alloc (.cells #[.string ⟨#[112]⟩, .int .i64 0, .slice (some ⟨w.heap.size + 1 + 1, 0, none⟩) 1 1, .slice none 0 0, .int .i64 0, .int .i64 2] 66)).alloc (.cells #[.int .i64 3, .int .i64 2, .int .i64 1, .slice (some ⟨w.heap.size + 1, 0, none⟩) 1 1, .slice (some ⟨w.heap.size + 1 + 1 + 1, 0, none⟩) 1 1] 25)) (some ⟨w.heap.size + 1 + 1, 0, none⟩) 1 [0] := C_one (cs := [.int .i64 0]) rfl (fun i u h => by rcases i with _ | i <;> simp at h; subst h; simp [go_sem])
  refine ⟨C_one (k79_mk _ _ (Nat.le_refl _) c76) (fun i u h => by rcases i with _ | _ | i <;> simp at h <;> subst h <;> simp [go_sem]), Nat.le_refl _, C_one (k66_mk _ _ (Nat.le_refl _) c3 (c2 := 1) (c3 := 0) (Nat.le_refl _) (C_none _ _ none)) (fun i u h => by rcases i with _ | _ | _ | _ | _ | _ | i <;> simp at h <;> subst h <;> simp [go_sem]), Nat.le_refl _⟩
theorem lit_cell (w : World) (i : Nat) (u : Value) (h : [Value.int .i64 3, .int .i64 2, .int .i64 1, .slice (some ⟨w.heap.size + 1, 0, none⟩) 1 1, .slice (some ⟨w.heap.size + 1 + 1 + 1, 0, none⟩) 1 1][i]? = some u) : (((((w.alloc (.cells #[.string ⟨#[97]⟩, .int .i64 2, .bool false] 76)).alloc (.cells #[.string ⟨#[116]⟩, .slice (some ⟨w.heap.size, 0, none⟩) 1 1] 79)).alloc (.cells #[.int .i64 0] 3)).alloc (.cells #[.string ⟨#[112]⟩, .int .i64 0, .slice (some ⟨w.heap.size + 1 + 1, 0, none⟩) 1 1, .slice none 0 0, .int .i64 0, .int .i64 2] 66)).alloc (.cells #[.int .i64 3, .int .i64 2, .int .i64 1, .slice (some ⟨w.heap.size + 1, 0, none⟩) 1 1, .slice (some ⟨w.heap.size + 1 + 1 + 1, 0, none⟩) 1 1] 25)).cell? ⟨w.heap.size + 1 + 1 + 1 + 1, i, none⟩ = some u := by
  rcases i with _ | _ | _ | _ | _ | i <;> simp at h <;> subst h <;> simp [go_sem]
theorem lit_below (w : World) : Below w.heap.size w (((((w.alloc (.cells #[.string ⟨#[97]⟩, .int .i64 2, .bool false] 76)).alloc (.cells #[.string ⟨#[116]⟩, .slice (some ⟨w.heap.size, 0, none⟩) 1 1] 79)).alloc (.cells #[.int .i64 0] 3)).alloc (.cells #[.string ⟨#[112]⟩, .int .i64 0, .slice (some ⟨w.heap.size + 1 + 1, 0, none⟩) 1 1, .slice none 0 0, .int .i64 0, .int .i64 2] 66)).alloc (.cells #[.int .i64 3, .int .i64 2, .int .i64 1, .slice (some ⟨w.heap.size + 1, 0, none⟩) 1 1, .slice (some ⟨w.heap.size + 1 + 1 + 1, 0, none⟩) 1 1] 25)) := (((((Below.refl _ w).alloc (Nat.le_refl _) _).alloc (by simp) _).alloc (by simp; omega) _).alloc (by simp; omega) _).alloc (by simp; omega) _
theorem bools3 {w : World} {g : Nat} {a b c : Bool} (h0 : w.cell? ⟨g, 0, none⟩ = some (.bool a)) (h1 : w.cell? ⟨g, 1, none⟩ = some (.bool b)) (h2 : w.cell? ⟨g, 2, none⟩ = some (.bool c)) : Kd.bool.C w (some ⟨g, 0, none⟩) 3 [a, b, c] := by
  refine ⟨rfl, by omega, fun _ => ⟨_, rfl, fun j p hj => ?_⟩⟩
  rcases j with _ | _ | _ | j
  · obtain rfl : a = p := by simpa using hj
    exact ⟨[.bool a], rfl, rfl, fun i u hu => by rcases i with _ | i <;> simp at hu; subst hu; rw [add_plain]; exact h0⟩
  · obtain rfl : b = p := by simpa using hj
    exact ⟨[.bool b], rfl, rfl, fun i u hu => by rcases i with _ | i <;> simp at hu; subst hu; rw [add_plain]; exact h1⟩
  · obtain rfl : c = p := by simpa using hj
    exact ⟨[.bool c], rfl, rfl, fun i u hu => by rcases i with _ | i <;> simp at hu; subst hu; rw [add_plain]; exact h2⟩
  · simp at hj
theorem lit_good : Good 3 2 1 Pl := good_of (T := Tl) (by decide) (by decide) (by decide)
set_option maxHeartbeats 4000000 in
set_option maxRecDepth 100000 in
/-- The laws' own trial: it holds. -/
theorem alive_calls (w : World) : Calls Try.prog 9 #[] w fun e w' => e = .returned (.bool true) ∧ Below w.heap.size w w' := by
  have HR := Lib.hid (lit_catR w)
  have HB := Lib.hid (lit_below w)
  have q0 := lit_cell w 0 _ rfl
  have q1 := lit_cell w 1 _ rfl
  have q2 := lit_cell w 2 _ rfl
  have q3 := lit_cell w 3 _ rfl
  have q4 := lit_cell w 4 _ rfl
  go_enter Try.func9, Try.ntmps9
  go_wp2_with (fail)
  generalize (((((w.alloc (.cells #[.string ⟨#[97]⟩, .int .i64 2, .bool false] 76)).alloc (.cells #[.string ⟨#[116]⟩, .slice (some ⟨w.heap.size, 0, none⟩) 1 1] 79)).alloc (.cells #[.int .i64 0] 3)).alloc (.cells #[.string ⟨#[112]⟩, .int .i64 0, .slice (some ⟨w.heap.size + 1 + 1, 0, none⟩) 1 1, .slice none 0 0, .int .i64 0, .int .i64 2] 66)).alloc (.cells #[.int .i64 3, .int .i64 2, .int .i64 1, .slice (some ⟨w.heap.size + 1, 0, none⟩) 1 1, .slice (some ⟨w.heap.size + 1 + 1 + 1, 0, none⟩) 1 1] 25)) = W0 at *
  refine (nodes_calls (T := Tl) lit_good HR.out 0 1).mono ?_
  rintro e w1 ⟨A, c, rfl, hle, hC, hb⟩
  rw [lit_nodes] at hle hC ⊢
  have HB1 := Lib.hid hb
  have HC1 := Lib.hid hC
  replace q0 := pw_cell_below hb q0
  replace q1 := pw_cell_below hb q1
  replace q2 := pw_cell_below hb q2
  replace q3 := pw_cell_below hb q3
  replace q4 := pw_cell_below hb q4
  clear hb hC
  go_wp2_with (fail)
  refine (check_calls 3 2 1 Tl Pl _ _ _ _ w1 (HR.out.below HB1.out)).mono ?_
  rintro e w2 ⟨rfl, hb⟩
  rw [lit_chk]
  replace q0 := pw_cell_below hb q0
  replace q1 := pw_cell_below hb q1
  replace q2 := pw_cell_below hb q2
  replace q3 := pw_cell_below hb q3
  replace q4 := pw_cell_below hb q4
  have HB2 := Lib.hid (HB1.out.trans (hb.mono HB1.out.size))
  obtain ⟨ad, e1, x0⟩ := int_at (Kd.C_below HC1.out hb) 0 (by simp)
  cases e1
  obtain ⟨ad1, e1, x1⟩ := int_at (Kd.C_below HC1.out hb) 1 (by simp)
  cases e1
  simp at x0 x1
  replace x0 : w2.cell? ad = some (.int .i64 0) := by rwa [show ad.add 0 = ad by simp [Addr.add]] at x0
  replace x1 : w2.cell? ⟨ad.block, ad.off + 1, none⟩ = some (.int .i64 1) := by rwa [show ad.add 1 = ⟨ad.block, ad.off + 1, none⟩ by simp [Addr.add]] at x1
  clear hb
  have hbx : Below w.heap.size w (w2.alloc (.cells #[.bool true, .bool false, .bool false] 4)) := (HB.out.trans (HB2.out.mono HB.out.size)).alloc (HB.out.trans (HB2.out.mono HB.out.size)).size _
  have HBX := Lib.hid hbx
  have HCX := Lib.hid (HR.out.below (HB2.out.trans (((Below.refl w2.heap.size w2).alloc (Nat.le_refl _) (.cells #[.bool true, .bool false, .bool false] 4)).mono HB2.out.size)))
  clear hbx
  go_wp2_with (fail)
  refine (cov_calls 3 2 1 Tl Pl _ _ _ _ (some ⟨w2.heap.size, 0, none⟩) 3 [true, false, false] _ lit_good HCX.out (bools3 (by simp [go_sem]) (by simp [go_sem]) (by simp [go_sem])) (Nat.le_refl _)).mono ?_
  rintro e w3 ⟨rfl, hb⟩
  rw [lit_cov]
  have HZ := Lib.hid (HBX.out.trans (hb.mono HBX.out.size))
  clear hb q0 q1 q2 q3 q4 x0 x1
  go_wp2
  go_ret
  exact ⟨rfl, HZ.out⟩
end Go.Proofs.Ytnaaaldeadjohaa.Cat

set_option linter.unusedVariables false
set_option linter.unusedSimpArgs false
namespace Go.Proofs.Ytnaaaldeadjohaa.Cat
open Go.RowKit Go.Shelf Go.Proofs Go.Proofs.YtnaaaldeadjohaaW.PrintWords Go.Proofs.Ytnaaaldeadjohaa.PCatalogLies
attribute [local go_sem] Oper.semAt_some
theorem fn_nil0 (d : Nat) (f : Fn) (a c : Array Value) (w : World) : (Op.equalIn (d + 1) 88 (.func f a c) .nilFunc).run Try.prog w = .ok false w := by
  simp [Op.equalIn, run_underlying Try.underlying88]
theorem fn_nil (f : Fn) (a c : Array Value) (w : World) : (binOp .eql 88 (.func f a c) .nilFunc).run Try.prog w = .ok (.bool false) w := by
  simp only [binOp]
  simp [show (Op.equal 88 (.func f a c) .nilFunc).run Try.prog w = .ok false w from fn_nil0 9999 f a c w]
attribute [local go_sem] fn_nil
/-- All of some segments. (A name that the walk does not open.) -/
def keepAll (l : List S31) : List S31 := l
set_option maxRecDepth 100000 in
set_option maxHeartbeats 4000000 in
theorem segments_calls (n s k : Int) (T : List S79) (P : List S66) (A3 : Option Addr) (c3 : Nat) (A4 : Option Addr) (c4 : Nat) (w : World) (g : Good n s k P) (h : CatR w T P A3 c3 A4 c4) :
    Calls Try.prog 12 #[catV n s k T P A3 c3 A4 c4] w (fun e w' => ∃ A c, e = .returned (.tuple #[.slice A (segsL s P).length c, .bool true]) ∧ (segsL s P).length ≤ c ∧ k31.C w' A (segsL s P).length (segsL s P) ∧ Below w.heap.size w w') := by
  refine (callsIn_wide (n := 5)).1 ?_
  refine callsIn_of_wp_marks Try.func12 rfl trivial ?_ rfl
  simp only [Try.ntmps12, List.size_toArray, List.length_cons, List.length_nil, Nat.reduceAdd, Nat.reduceSub, Array.replicate_succ, Array.replicate_zero, List.push_toArray, List.append_toArray, List.nil_append, List.cons_append]
  have HC := Lib.hid h
  have HG := Lib.hid g
  have hB0 : Below w.heap.size w ((w.alloc (.cells #[.int .i64 n, .int .i64 s, .int .i64 k, .slice A3 T.length c3, .slice A4 P.length c4] 25)).alloc (.cells #[.int .i64 n, .int .i64 s, .int .i64 k, .slice A3 T.length c3, .slice A4 P.length c4] 25)) := ((Below.refl _ w).alloc (Nat.le_refl _) _).alloc (by simp) _
  have bA := heap_alloc_new (w.alloc (.cells #[.int .i64 n, .int .i64 s, .int .i64 k, .slice A3 T.length c3, .slice A4 P.length c4] 25)) (.cells #[.int .i64 n, .int .i64 s, .int .i64 k, .slice A3 T.length c3, .slice A4 P.length c4] 25)
  have hsz0 : ((w.alloc (.cells #[.int .i64 n, .int .i64 s, .int .i64 k, .slice A3 T.length c3, .slice A4 P.length c4] 25)).alloc (.cells #[.int .i64 n, .int .i64 s, .int .i64 k, .slice A3 T.length c3, .slice A4 P.length c4] 25)).heap.size = w.heap.size + 2 := by simp
  simp only [World.size_alloc] at bA
  have HBA := Lib.hid bA
  have HB0 := Lib.hid hB0
  have HSZ0 := Lib.hid hsz0
  clear h g hB0 bA hsz0
  gi_wp2_with (first
    | (refine ⟨trivial, ?_⟩; gi_at_call 37; refine (segsFn_in Fence.wide _ trivial rfl n s k T P A3 c3 A4 c4 _).mono ?_; rintro e w' ⟨rfl, rfl⟩)
    | (refine ⟨trivial, ?_⟩; gi_at_call 9; refine (callsIn_wide.2 (alive_calls _)).mono ?_; rintro e w1 ⟨rfl, hb⟩; have HB1 := Lib.hid hb; clear hb))
  generalize ((w.alloc (.cells #[.int .i64 n, .int .i64 s, .int .i64 k, .slice A3 T.length c3, .slice A4 P.length c4] 25)).alloc (.cells #[.int .i64 n, .int .i64 s, .int .i64 k, .slice A3 T.length c3, .slice A4 P.length c4] 25)) = W9 at *
  obtain ⟨i0, hi, hz0, hz1, hz2⟩ := info_parts info31
  have b3 := blk_alloc (blk_below HBA.out HB1.out) (.cells #[.slice none 0 0] 33)
  have b2 := Boxed.new w1 33 (.slice none 0 0)
  have hszR : w.heap.size + 2 ≤ w1.heap.size := by have := HB1.out.size; have := HSZ0.out; omega
  have hB0 : Below w.heap.size w (w1.alloc (.cells #[.slice none 0 0] 33)) := (HB0.out.trans (HB1.out.mono HB0.out.size)).alloc (by omega) _
  have hsz : (w1.alloc (.cells #[.slice none 0 0] 33)).heap.size = w1.heap.size + 1 := by simp
  generalize w1.heap.size = R at *
  generalize w1.alloc (.cells #[.slice none 0 0] 33) = W0 at *
  clear HBA HB1 HB0 HSZ0
  have c31 := (blk_cell b3 1).trans rfl
  have c34 := (blk_cell b3 4).trans rfl
  refine wpIn_rangeFunc_ownH rfl (by omega) (gf := 62) (lb := #[.pointer (some ⟨w.heap.size + 1, 0, none⟩)]) rfl trivial (enters_of Try.func62 (by kernel_rfl) rfl)
    (segs_stops Fence.wide _ trivial rfl (by omega) (w.heap.size + 1) s P A4 c4 W0 (by have := HG.out.hs; omega) HG.out.hP (by omega) c31 c34) SameAt.trans (sameAt_b (by omega)) (Below.refl _ _) (fun _ => rfl)
    (fun pre W => (W.heap[w.heap.size + 1]? = some (.cells #[.int .i64 n, .int .i64 s, .int .i64 k, .slice A3 T.length c3, .slice A4 P.length c4] 25 (0, 0)) ∧
      (∃ v, Boxed W R 33 v ∧ W.ownsRow w.heap.size 31 2 v (keepAll pre).length (segCells (keepAll pre)) ∧ True)) ∧ Below w.heap.size w W)
    (fun _ _ _ => False)
    (OwnFrom.and (OwnFrom.and (Own.from (blk_own _ _ _) _) (Own.from (holdsRow_own w.heap.size R 33 31 2 (fun pre => (keepAll pre).length) (fun pre => segCells (keepAll pre)) (fun _ _ => True)) _)) (ownFrom_below (Nat.le_refl _) (by omega)))
    (fun _ _ _ _ _ hs _ _ => hs)
    ⟨⟨b3, _, b2, own_nil _ _ _ _, trivial⟩, hB0⟩
    (fun y a' W => ∃ Bx, R < Bx ∧ W.heap[Bx]? = some (.cells #[.int .i64 y.f0, .int .i64 y.f1] 31 (0, 0)) ∧ a' = { tmps := #[catV n s k T P A3 c3 A4 c4, .pointer (some ⟨w.heap.size, 0, none⟩), .slice none 0 0, .bool false, .func (.func 62) #[] #[.pointer (some ⟨w.heap.size + 1, 0, none⟩)], .pointer (some ⟨R, 0, none⟩), .pointer (some ⟨Bx, 0, none⟩), catV n s k T P A3 c3 A4 c4, .func (.func 62) #[] #[.pointer (some ⟨w.heap.size + 1, 0, none⟩)], .func (.func 62) #[] #[.pointer (some ⟨w.heap.size + 1, 0, none⟩)], .bool false, .bool false, .bool true, .bool false, .bool false, .func (.func 62) #[] #[.pointer (some ⟨w.heap.size + 1, 0, none⟩)], segV y, undef, undef, undef, undef, undef], defers := [] })
    (fun y a' _ X Y row hs hg hr => by obtain ⟨Bx, h1, h2, h3⟩ := hs; exact ⟨Bx, h1, blk_own Bx _ _ () X Y row h2 hg (fun r e => (hr r e).2), h3⟩)
    ?assign ?body ?done ?stop
  case assign =>
    rintro l pre y W K ⟨⟨hb3, v, hb2, hrow, _⟩, hB⟩ hK
    gi_wp2
    exact hK _ _ ((KeepsOthers.alloc _ _).from _) (Below.heap_alloc _ _ _ (blk_lt hb3)) ⟨⟨blk_alloc hb3 _, v, hb2.alloc _, hrow.alloc _, trivial⟩, hB.alloc hB.size _⟩ ⟨W.heap.size, blk_lt hb2, heap_alloc_new W _, rfl⟩
  case body =>
    rintro l pre y a' W hl ⟨r, hr⟩ ⟨⟨hb3, v, hb2, hrow, _⟩, hB⟩ ⟨Bx, hBx, bX, rfl⟩ hlt
    have hlen : (keepAll pre).length ≤ 64 := by
      have h2 := Nat.mul_le_mul HG.out.hP (show s.toNat ≤ 8 by have := HG.out.hs; omega)
      have h3 : (keepAll pre).length = pre.length := rfl
      omega
    have RR := Lib.hid hrow
    have RB := Lib.hid hB
    have R2 := Lib.hid hb2
    have R3 := Lib.hid hb3
    have RX := Lib.hid bX
    have l0 := hb2.cell
    have e0 := (blk_cell bX 0).trans rfl
    have e1 := (blk_cell bX 1).trans rfl
    clear hrow hB hb2 hb3 bX b2 b3 c31 c34
    gi_wp2_with (gi_at_builtin; refine wpListIn_append_own _ rfl _ _ 33 rfl w.heap.size 31 i0 (.agg #[.int .i64 0, .int .i64 0]) 2 16 Try.underlying33 hi hz0 hz1 hz2 rfl (by decide) v _ _ rfl (RR.out.alloc _) ⟨W.heap.size, 0, none⟩ 1 1 [.int .i64 y.f0, .int .i64 y.f1] rfl rfl (World.news_of_block (cs := #[.int .i64 y.f0, .int .i64 y.f1]) (t := 31) (fr := (0, 0)) (heap_alloc_new W _)) (by simp [Value.oneCell']) (by simp only [maxLen]; omega) (by omega) (by have := RB.out.size; simp; omega) ?_; intro v' w3 hown' hgrow _; obtain ⟨g', cap', rfl⟩ := ownsRow_succ hown'; obtain ⟨hv1, hv2, hr2, hk2, hb2'⟩ := R2.out.appended (by decide) RR.out RB.out.size (by omega) hown' hgrow; have hc1 := hv1.cell; have hf1 := hv1.frozen; have HV2 := Lib.hid hv2; have HR2 := Lib.hid hr2; have HK2 := Lib.hid hk2; have HB2' := Lib.hid hb2'; have HGR := Lib.hid hgrow; clear hv1 hv2 hr2 hk2 hb2' hown' hgrow)
    have G3 := Lib.hid (blk_grown (blk_alloc R3.out (.cells #[.int .i64 y.f0, .int .i64 y.f1] 31)) HGR.out (own_ne (RR.out.alloc (.cells #[.int .i64 y.f0, .int .i64 y.f1] 31)) (blk_alloc R3.out (.cells #[.int .i64 y.f0, .int .i64 y.f1] 31)) (by decide)))
    refine ⟨HK2.out.from _, ?_, ⟨⟨blk_far G3.out (by show _ ≠ R; omega) _, _, HV2.out, ?_, trivial⟩, RB.out.trans HB2'.out⟩⟩
    · exact (blk_far G3.out (by show _ ≠ R; omega) _).trans R3.out.symm
    · show World.ownsRow _ _ _ _ _ (keepAll (pre ++ [y])).length (segCells (keepAll (pre ++ [y])))
      rw [show keepAll (pre ++ [y]) = keepAll pre ++ [y] from rfl, segCells_snoc, List.length_append]
      exact HR2.out
  case done =>
    rintro D ys W hD rfl ⟨⟨hb3, v, hb2, hrow, _⟩, hB⟩ hK
    have hc := hb2.cell
    have HR := Lib.hid (ownsRow_putObj hrow (.deferred none) hK rfl)
    have HB2 := Lib.hid (hB.trans (belowK_b (w := w) (Nat.le_refl _) W D _ (.deferred none) (by omega) hK rfl rfl))
    clear b2 b3 c31 c34 hb3 hrow hB
    gi_wp2
    refine ⟨by simp, .inl ⟨_, _, rfl, run_takeDeferred hK, ?_⟩⟩
    obtain ⟨A, c, rfl, hle, hC⟩ := segs_gives HR.out
    refine ⟨.tuple #[.slice A (segsL s P).length c, .bool true], ?_, A, c, rfl, hle, hC, HB2.out⟩
    change Sem.run Try.prog (results Try.f12 _) _ = _
    simp [results, Try.f12, go_sem, keepAll]
  case stop =>
    rintro D c pre W _ _ h _
    exact h.elim
end Go.Proofs.Ytnaaaldeadjohaa.Cat

set_option linter.unusedVariables false
set_option linter.unusedSimpArgs false
namespace Go.Proofs.Ytnaaaldeadjohaa.Cat
open Go.RowKit Go.Shelf Go.Proofs Go.Proofs.YtnaaaldeadjohaaW.PrintWords Go.Proofs.Ytnaaaldeadjohaa.PCatalogLies Go.Deep Go.WideShapes Go.ChangeShapes
/-! ### Down: what an argument that reads is made of -/
instance i76 : Inhabited S76 := ⟨⟨ByteArray.empty, 0, false⟩⟩
instance i79 : Inhabited S79 := ⟨⟨ByteArray.empty, []⟩⟩
instance i66 : Inhabited S66 := ⟨⟨ByteArray.empty, 0, [], [], 0, 0⟩⟩
section
variable {H : Type} {enc : TypeId × Value → H} {w : World} {base : Nat} {sp : Nat → Bool} {held : Bool}
theorem opens_slice {α : Type} [Inhabited α] {d : Kd α} {t e : TypeId} (ht : Try.prog.underlying t = some (.slice e)) (hc : Try.prog.cellsOf e = d.sz)
    (he : ∀ fuel cs x, DataW.trod enc Try.prog w base sp held fuel e cs = some x → ∃ a, d.K w a cs) {fuel : Nat} {cs : List Value} {x : DataW H × List MemPlace}
    (h : DataW.trod enc Try.prog w base sp held fuel t cs = some x) : ∃ A c xs, cs = [.slice A (xs : List α).length c] ∧ xs.length ≤ c ∧ d.C w A xs.length xs := by
  rcases open_slice ht h with ⟨rfl, _⟩ | ⟨a, len, cap, m, n, D, Pl, rfl, _, hl, hm, hmm, _, hx⟩
  · exact ⟨none, 0, [], rfl, Nat.le_refl _, rfl, by simp, fun h => absurd h (by simp)⟩
  have hlm : len ≤ m := by rw [hmm]; split <;> omega
  obtain ⟨f, hf⟩ := choose_lt (α := α) (n := len) (p := fun i v => ∃ c, c.length = d.sz ∧ d.K w v c ∧ ∀ j u, c[j]? = some u → w.cell? (a.add (i * d.sz + j)) = some u) (fun i hi => by
    obtain ⟨cs', h1, h2⟩ := hx i (by omega)
    rw [hc] at h1
    obtain ⟨_, hlen, hcell⟩ := World.cells?_some h1
    obtain ⟨v, hv⟩ := he _ _ _ h2
    refine ⟨v, cs', hlen, hv, fun j u hu => ?_⟩
    have hj : j < d.sz := by rw [← hlen]; exact (List.getElem?_eq_some_iff.1 hu).1
    have := hcell j hj
    rw [Go.Deep.add_add] at this
    rw [this, hu])
  have hN : maxLen ≤ 9223372036854775807 := by simp only [maxLen]; omega
  refine ⟨some a, cap, (List.range len).map f, by simp, by simpa using hl, ?_⟩
  refine ⟨rfl, by simp; omega, fun _ => ⟨a, rfl, fun j p hj => ?_⟩⟩
  have hjl : j < len := by simpa using (List.getElem?_eq_some_iff.1 hj).1
  have : f j = p := by
    rw [List.getElem?_map, List.getElem?_range hjl] at hj
    simpa using hj
  subst this
  exact hf j hjl
theorem opens_int {fuel : Nat} {cs : List Value} {x : DataW H × List MemPlace} (h : DataW.trod enc Try.prog w base sp held fuel 3 cs = some x) : ∃ a : Int, (Kd.int .i64).K w a cs := by
  obtain ⟨n, rfl, _⟩ := DataW.trod_int Try.underlying3 h
  exact ⟨n, rfl⟩
theorem opens_bool {fuel : Nat} {cs : List Value} {x : DataW H × List MemPlace} (h : DataW.trod enc Try.prog w base sp held fuel 4 cs = some x) : ∃ a : Bool, Kd.bool.K w a cs := by
  obtain ⟨n, rfl, _⟩ := DataW.trod_bool Try.underlying4 h
  exact ⟨n, rfl⟩
set_option maxRecDepth 100000 in
theorem opens76 {fuel : Nat} {cs : List Value} {x : DataW H × List MemPlace} (h : DataW.trod enc Try.prog w base sp held fuel 76 cs = some x) : ∃ a, k76.K w a cs := by
  obtain ⟨xs, n, _, _, hl, hxl, hf⟩ := DataW.trod_struct Try.underlying76 h
  have hl' : cs.length = 3 := hl.trans (by kernel_rfl)
  match xs, hxl, cs, hl' with
  | [y0, y1, y2], _, [v0, v1, v2], _ =>
    have g0 := hf 0 _ rfl
    have g1 := hf 1 _ rfl
    have g2 := hf 2 _ rfl
    simp [show Try.prog.cellsOf 3 = 1 by kernel_rfl, show Try.prog.cellsOf 9 = 1 by kernel_rfl, show Try.prog.cellsOf 4 = 1 by kernel_rfl] at g0 g1 g2
    obtain ⟨s, e0, _⟩ := DataW.trod_string Try.underlying9 g0
    obtain ⟨m, e1, _⟩ := DataW.trod_int Try.underlying3 g1
    obtain ⟨b, e2, _⟩ := DataW.trod_bool Try.underlying4 g2
    cases e0; cases e1; cases e2
    exact ⟨⟨s, m, b⟩, k76_mk w _⟩
set_option maxRecDepth 100000 in
theorem opens79 {fuel : Nat} {cs : List Value} {x : DataW H × List MemPlace} (h : DataW.trod enc Try.prog w base sp held fuel 79 cs = some x) : ∃ a, k79.K w a cs := by
  obtain ⟨xs, n, _, _, hl, hxl, hf⟩ := DataW.trod_struct Try.underlying79 h
  have hl' : cs.length = 2 := hl.trans (by kernel_rfl)
  match xs, hxl, cs, hl' with
  | [y0, y1], _, [v0, v1], _ =>
    have g0 := hf 0 _ rfl
    have g1 := hf 1 _ rfl
    simp [show Try.prog.cellsOf 77 = 1 by kernel_rfl, show Try.prog.cellsOf 9 = 1 by kernel_rfl] at g0 g1
    obtain ⟨s, e0, _⟩ := DataW.trod_string Try.underlying9 g0
    obtain ⟨A, c, l, e1, hle, hC⟩ := opens_slice (d := k76) Try.underlying77 (by kernel_rfl) (fun _ _ _ h => opens76 h) g1
    cases e0; cases e1
    exact ⟨⟨s, l⟩, k79_mk w _ hle hC⟩
set_option maxRecDepth 100000 in
theorem opens66 {fuel : Nat} {cs : List Value} {x : DataW H × List MemPlace} (h : DataW.trod enc Try.prog w base sp held fuel 66 cs = some x) : ∃ a, k66.K w a cs := by
  obtain ⟨xs, n, _, _, hl, hxl, hf⟩ := DataW.trod_struct Try.underlying66 h
  have hl' : cs.length = 6 := hl.trans (by kernel_rfl)
  match xs, hxl, cs, hl' with
  | [y0, y1, y2, y3, y4, y5], _, [v0, v1, v2, v3, v4, v5], _ =>
    have g0 := hf 0 _ rfl
    have g1 := hf 1 _ rfl
    have g2 := hf 2 _ rfl
    have g3 := hf 3 _ rfl
    have g4 := hf 4 _ rfl
    have g5 := hf 5 _ rfl
    simp [show Try.prog.cellsOf 3 = 1 by kernel_rfl, show Try.prog.cellsOf 9 = 1 by kernel_rfl, show Try.prog.cellsOf 40 = 1 by kernel_rfl] at g0 g1 g2 g3 g4 g5
    obtain ⟨s, e0, _⟩ := DataW.trod_string Try.underlying9 g0
    obtain ⟨m1, e1, _⟩ := DataW.trod_int Try.underlying3 g1
    obtain ⟨A2, c2, l2, e2, hle2, hC2⟩ := opens_slice (d := Kd.int .i64) Try.underlying40 (by kernel_rfl) (fun _ _ _ h => opens_int h) g2
    obtain ⟨A3, c3, l3, e3, hle3, hC3⟩ := opens_slice (d := Kd.int .i64) Try.underlying40 (by kernel_rfl) (fun _ _ _ h => opens_int h) g3
    obtain ⟨m4, e4, _⟩ := DataW.trod_int Try.underlying3 g4
    obtain ⟨m5, e5, _⟩ := DataW.trod_int Try.underlying3 g5
    cases e0; cases e1; cases e2; cases e3; cases e4; cases e5
    exact ⟨⟨s, m1, l2, l3, m4, m5⟩, k66_mk w _ hle2 hC2 hle3 hC3⟩
set_option maxRecDepth 100000 in
/-- A catalog that came in. -/
theorem opens25 {r : Reach} {b0 : Nat} {v : Value} {dd : DataW H} {p : List MemPlace} (hv : Value.okWide Try.prog w r b0 25 v) (h : DataW.Trod enc Try.prog w base sp held 25 v dd p) :
    ∃ n s k T P A3 c3 A4 c4, v = catV n s k T P A3 c3 A4 c4 ∧ CatR w T P A3 c3 A4 c4 := by
  obtain ⟨cs, rfl, hsz⟩ := okWide_struct Try.underlying25 hv
  obtain ⟨fuel, hf0⟩ := h
  obtain ⟨xs, n, _, _, hl, hxl, hf⟩ := DataW.trod_struct Try.underlying25 hf0
  have hsz' : cs.size = 5 := hsz.trans (by kernel_rfl)
  obtain ⟨cl⟩ := cs
  match xs, hxl, cl, hsz' with
  | [y0, y1, y2, y3, y4], _, [v0, v1, v2, v3, v4], _ =>
    have g0 := hf 0 _ rfl
    have g1 := hf 1 _ rfl
    have g2 := hf 2 _ rfl
    have g3 := hf 3 _ rfl
    have g4 := hf 4 _ rfl
    simp [Value.cells, show Try.prog.cellsOf 3 = 1 by kernel_rfl, show Try.prog.cellsOf 22 = 1 by kernel_rfl, show Try.prog.cellsOf 23 = 1 by kernel_rfl] at g0 g1 g2 g3 g4
    obtain ⟨m0, e0, _⟩ := DataW.trod_int Try.underlying3 g0
    obtain ⟨m1, e1, _⟩ := DataW.trod_int Try.underlying3 g1
    obtain ⟨m2, e2, _⟩ := DataW.trod_int Try.underlying3 g2
    obtain ⟨A3, c3, l3, e3, hle3, hC3⟩ := opens_slice (d := k79) Try.underlying22 (by kernel_rfl) (fun _ _ _ h => opens79 h) g3
    obtain ⟨A4, c4, l4, e4, hle4, hC4⟩ := opens_slice (d := k66) Try.underlying23 (by kernel_rfl) (fun _ _ _ h => opens66 h) g4
    cases e0; cases e1; cases e2; cases e3; cases e4
    exact ⟨m0, m1, m2, l3, l4, A3, c3, A4, c4, rfl, hC3, hle3, hC4, hle4⟩
set_option maxRecDepth 100000 in
/-- A segment that came in. -/
theorem opens31 {r : Reach} {b0 : Nat} {v : Value} {dd : DataW H} {p : List MemPlace} (hv : Value.okWide Try.prog w r b0 31 v) (h : DataW.Trod enc Try.prog w base sp held 31 v dd p) :
    ∃ a b, v = .agg #[.int .i64 a, .int .i64 b] := by
  obtain ⟨cs, rfl, hsz⟩ := okWide_struct Try.underlying31 hv
  obtain ⟨fuel, hf0⟩ := h
  obtain ⟨xs, n, _, _, hl, hxl, hf⟩ := DataW.trod_struct Try.underlying31 hf0
  have hsz' : cs.size = 2 := hsz.trans (by kernel_rfl)
  obtain ⟨cl⟩ := cs
  match xs, hxl, cl, hsz' with
  | [y0, y1], _, [v0, v1], _ =>
    have g0 := hf 0 _ rfl
    have g1 := hf 1 _ rfl
    simp [Value.cells, show Try.prog.cellsOf 3 = 1 by kernel_rfl] at g0 g1
    obtain ⟨m0, e0, _⟩ := DataW.trod_int Try.underlying3 g0
    obtain ⟨m1, e1, _⟩ := DataW.trod_int Try.underlying3 g1
    cases e0; cases e1
    exact ⟨m0, m1, rfl⟩
set_option maxRecDepth 100000 in
/-- Some bools that came in. -/
theorem opens32 {r : Reach} {b0 : Nat} {v : Value} {dd : DataW H} {p : List MemPlace} (hv : Value.okWide Try.prog w r b0 32 v) (h : DataW.Trod enc Try.prog w base sp held 32 v dd p) :
    ∃ A c l, v = .slice A (l : List Bool).length c ∧ l.length ≤ c ∧ Kd.bool.C w A l.length l := by
  obtain ⟨a, len, cap, rfl⟩ := okWide_slice Try.underlying32 hv
  obtain ⟨fuel, hf0⟩ := h
  obtain ⟨A, c, l, e, hle, hC⟩ := opens_slice (d := Kd.bool) Try.underlying32 (by kernel_rfl) (fun _ _ _ h => opens_bool h) hf0
  simp [Value.cells] at e
  obtain ⟨rfl, rfl, rfl⟩ := e
  exact ⟨_, _, l, rfl, hle, hC⟩
end
end Go.Proofs.Ytnaaaldeadjohaa.Cat

set_option linter.unusedVariables false
set_option linter.unusedSimpArgs false
namespace Go.Proofs.Ytnaaaldeadjohaa.Cat
open Go.RowKit Go.Shelf Go.Proofs Go.Proofs.YtnaaaldeadjohaaW.PrintWords Go.Proofs.Ytnaaaldeadjohaa.PCatalogLies
/-- The five cells of a box that holds a catalog. -/
def CatBox (w : World) (b : Nat) (n s k : Int) (T : List S79) (P : List S66) (A3 : Option Addr) (c3 : Nat) (A4 : Option Addr) (c4 : Nat) : Prop :=
  w.cell? ⟨b, 0, none⟩ = some (.int .i64 n) ∧ w.cell? ⟨b, 1, none⟩ = some (.int .i64 s) ∧ w.cell? ⟨b, 2, none⟩ = some (.int .i64 k) ∧ w.cell? ⟨b, 3, none⟩ = some (.slice A3 T.length c3) ∧ w.cell? ⟨b, 4, none⟩ = some (.slice A4 P.length c4)
theorem CatBox.below {w w1 : World} {b : Nat} {n s k : Int} {T : List S79} {P : List S66} {A3 : Option Addr} {c3 : Nat} {A4 : Option Addr} {c4 : Nat} (h : CatBox w b n s k T P A3 c3 A4 c4) (hb : Below w.heap.size w w1) : CatBox w1 b n s k T P A3 c3 A4 c4 :=
  ⟨pw_cell_below hb h.1, pw_cell_below hb h.2.1, pw_cell_below hb h.2.2.1, pw_cell_below hb h.2.2.2.1, pw_cell_below hb h.2.2.2.2⟩
theorem CatBox.new (w : World) (n s k : Int) (T : List S79) (P : List S66) (A3 : Option Addr) (c3 : Nat) (A4 : Option Addr) (c4 : Nat) : CatBox (w.alloc (.cells #[.int .i64 n, .int .i64 s, .int .i64 k, .slice A3 T.length c3, .slice A4 P.length c4] 25)) w.heap.size n s k T P A3 c3 A4 c4 :=
  ⟨by simp [go_sem], by simp [go_sem], by simp [go_sem], by simp [go_sem], by simp [go_sem]⟩
set_option maxHeartbeats 8000000 in
set_option maxRecDepth 100000 in
theorem CatalogChecks_calls (n s k : Int) (T : List S79) (P : List S66) (A3 : Option Addr) (c3 : Nat) (A4 : Option Addr) (c4 : Nat) (w : World) (h : CatR w T P A3 c3 A4 c4) :
    Calls Try.prog 3 #[catV n s k T P A3 c3 A4 c4] w fun e w' => e = .returned (.bool true) ∧ Below w.heap.size w w' := by
  have hA := (Below.refl w.heap.size w).alloc (Nat.le_refl _) (.cells #[.int .i64 n, .int .i64 s, .int .i64 k, .slice A3 T.length c3, .slice A4 P.length c4] 25)
  have HA := Lib.hid hA
  have HCW := Lib.hid (h.below hA)
  have HQ := Lib.hid (CatBox.new w n s k T P A3 c3 A4 c4)
  clear hA h
  go_enter Try.func3, Try.ntmps3
  go_wp2
  generalize w.alloc (.cells #[.int .i64 n, .int .i64 s, .int .i64 k, .slice A3 T.length c3, .slice A4 P.length c4] 25) = W0 at *
  have HBD := Lib.hid (show Below W0.heap.size W0 W0 from Below.refl _ W0)
  have HBN := Lib.hid (show Below W0.heap.size W0 W0.drew from (Below.refl _ W0).drew)
  go_region_held3 (fun w' => w'.cell? ⟨w.heap.size, 0, none⟩ = some (.int .i64 n) ∧ w'.cell? ⟨w.heap.size, 1, none⟩ = some (.int .i64 s) ∧ w'.cell? ⟨w.heap.size, 2, none⟩ = some (.int .i64 k) ∧ w'.cell? ⟨w.heap.size, 3, none⟩ = some (.slice A3 T.length c3) ∧ w'.cell? ⟨w.heap.size, 4, none⟩ = some (.slice A4 P.length c4))
    (first | exact HQ.out.below HBN.out | exact HQ.out.below HBD.out)
    (first
      | (go_at_call 9; refine (alive_calls _).mono ?_; rintro e w1 ⟨rfl, hb⟩; have HBN2 := Lib.hid (HBN.out.trans (hb.mono HBN.out.size)); clear HBN; have HBN := HBN2; clear HBN2 hb)
      | (go_at_call 10; refine (check_calls n s k T P _ c3 _ c4 _ (HCW.out.below HBN.out)).mono ?_; rintro e w2 ⟨rfl, hb⟩; have HBN2 := Lib.hid (HBN.out.trans (hb.mono HBN.out.size)); clear HBN; have HBN := HBN2; clear HBN2 hb)
      | (go_at_call 11; refine (check2_calls n s k T P _ c3 _ c4 _ (HCW.out.below HBN.out)).mono ?_; rintro e w3 ⟨rfl, hb⟩; have HBN2 := Lib.hid (HBN.out.trans (hb.mono HBN.out.size)); clear HBN; have HBN := HBN2; clear HBN2 hb))
  go_wp2
  go_ret
  exact ⟨rfl, HA.out.trans (HBN.out.mono HA.out.size)⟩
end Go.Proofs.Ytnaaaldeadjohaa.Cat

set_option linter.unusedVariables false
set_option linter.unusedSimpArgs false
namespace Go.Proofs.Ytnaaaldeadjohaa.Cat
open Go.RowKit Go.Shelf Go.Proofs Go.Proofs.YtnaaaldeadjohaaW.PrintWords Go.Proofs.Ytnaaaldeadjohaa.PCatalogLies
/-! ### The law CatalogHomes -/
theorem Taken.good {n s k : Int} {T : List S79} {P : List S66} (h : Taken n s k T P) : Good n s k P := good_of h.head h.p8 h.projs
theorem In_calls (A : Option Addr) (n c : Nat) (l : List Int) (x : Int) (w : World) (hn : l.length = n) (hr : Kd.C (Kd.int .i64) w A n l) (hc : n ≤ c) :
    Calls Try.prog 22 #[.slice A n c, .int .i64 x] w fun e w' => e = .returned (.bool (hasB l x)) ∧ Drawn0 w w' := in_calls A n c l x w hn hr hc
theorem segs_range {s : Int} {P : List S66} {y : S31} (h : y ∈ segsL s P) : inRange s P y.f0 y.f1 = true := by
  unfold segsL at h
  obtain ⟨p, hp, h⟩ := List.mem_flatMap.1 h
  obtain ⟨q, hq, rfl⟩ := List.mem_map.1 h
  have h1 := List.mem_range.1 hp
  have h2 := List.mem_range.1 hq
  exact inRange_iff.2 ⟨by show (0 : Int) ≤ (p : Int); omega, by show (p : Int) < P.length; omega, by show (0 : Int) ≤ (q : Int); omega, by show (q : Int) < s; omega⟩
theorem nodes_len {n s k : Int} {P : List S66} {a b : Int} (h : inRange s P a b = true) : (nodesL n s k P a b).length = (k + 1).toNat := by
  unfold nodesL; rw [if_pos h]; simp
theorem emod_ne (x n : Int) (i j : Nat) (hn : 1 ≤ n) (hij : i < j) (hj : (j : Int) < n) : (x + (i : Int)) % n ≠ (x + (j : Int)) % n := by
  intro e
  have h := Int.emod_emod_of_dvd (x + (j : Int) - (x + (i : Int))) (Int.dvd_refl n)
  have h2 : ((j : Int) - i) % n = 0 := by
    have h3 : (x + (j : Int) - (x + (i : Int))) % n = 0 := by rw [Int.sub_emod, ← e, Int.sub_self, Int.zero_emod]
    rwa [show x + (j : Int) - (x + (i : Int)) = (j : Int) - i by omega] at h3
  rw [Int.emod_eq_of_lt (by omega) (by omega)] at h2
  omega
theorem nodes_nodup {n s k : Int} {P : List S66} (g : Good n s k P) (a b : Int) : (nodesL n s k P a b).Nodup := by
  have gn := g.hn
  have gk := g.hk
  unfold nodesL
  split
  · rw [List.nodup_iff_pairwise_ne, List.pairwise_iff_getElem]
    intro i j hi hj hij
    simp at hi hj
    simp only [List.getElem_map, List.getElem_range]
    exact emod_ne (b + (rd_T66 P a).f5) n i j (by omega) hij (by omega)
  · exact List.nodup_nil
theorem nodup_sub : ∀ {l m : List Int}, l.Nodup → (∀ x ∈ l, x ∈ m) → l.length ≤ m.length
  | [], _, _, _ => Nat.zero_le _
  | x :: l, m, h, hs => by
    have hx := hs x (by simp)
    obtain ⟨h1, h2⟩ := List.nodup_cons.1 h
    have h3 := nodup_sub (l := l) (m := m.erase x) h2 (fun y hy => (List.mem_erase_of_ne (fun e => by subst e; exact h1 hy)).2 (hs y (by simp [hy])))
    rw [List.length_erase, if_pos (by simpa using hx)] at h3
    have : 0 < m.length := List.length_pos_of_mem hx
    simp only [List.length_cons]
    omega
/-- How many of the first i segments lie at a node. -/
def hitB (n s k : Int) (P : List S66) (x : Int) (y : S31) : Bool := hasB (nodesL n s k P y.f0 y.f1) x
def cntN (n s k : Int) (P : List S66) (x : Int) (i : Nat) : Nat := (((segsL s P).take i).filter (hitB n s k P x)).length
theorem ofL_hit (n s k : Int) (P : List S66) (x : Int) : ofL n s k P x = (segsL s P).filter (hitB n s k P x) := rfl
section
variable {n s k : Int} {P : List S66} {x : Int} {i : Nat}
theorem cntN_no (hi : i < (segsL s P).length) (h : hitB n s k P x (segsL s P)[i] = false) : cntN n s k P x (i + 1) = cntN n s k P x i := by
  unfold cntN; rw [List.take_succ_eq_append_getElem hi, List.filter_append]; simp [List.filter_cons, h]
theorem cntN_yes (hi : i < (segsL s P).length) (h : hitB n s k P x (segsL s P)[i] = true) : cntN n s k P x (i + 1) = cntN n s k P x i + 1 := by
  unfold cntN; rw [List.take_succ_eq_append_getElem hi, List.filter_append]; simp [List.filter_cons, h]
theorem cntN_all : cntN n s k P x (segsL s P).length = (ofL n s k P x).length := by unfold cntN; rw [List.take_length, ofL_hit]
theorem cntN_le : cntN n s k P x i ≤ (segsL s P).length := by
  unfold cntN
  exact Nat.le_trans (List.length_filter_le _ _) (by rw [List.length_take]; omega)
theorem hit_at (hi : i < (segsL s P).length) (h : hitB n s k P x (segsL s P)[i] = true) : ∃ hlt : cntN n s k P x i < (ofL n s k P x).length, (ofL n s k P x)[cntN n s k P x i] = (segsL s P)[i] := by
  have e : ofL n s k P x = ((segsL s P).take i).filter (hitB n s k P x) ++ (segsL s P)[i] :: ((segsL s P).drop (i + 1)).filter (hitB n s k P x) := by
    rw [ofL_hit]
    conv => lhs; rw [← List.take_append_drop i (segsL s P), List.filter_append, List.drop_eq_getElem_cons hi, List.filter_cons, if_pos h]
  refine ⟨by rw [e, List.length_append]; simp [cntN], ?_⟩
  simp only [e]
  rw [List.getElem_append_right (by simp [cntN])]
  simp [cntN]
end
/-- Copies on the first i nodes. -/
def copiesN (n s k : Int) (P : List S66) : Nat → Nat
  | 0 => 0
  | i + 1 => copiesN n s k P i + (ofL n s k P (i : Int)).length
def hitsN (f : Nat → Bool) : Nat → Nat
  | 0 => 0
  | i + 1 => hitsN f i + (if f i = true then 1 else 0)
def rowsN (g : Nat → S31 → Bool) (l : List S31) : Nat → Nat
  | 0 => 0
  | i + 1 => rowsN g l i + (l.filter (g i)).length
theorem rowsN_cons (g : Nat → S31 → Bool) (y : S31) (l : List S31) : ∀ i, rowsN g (y :: l) i = hitsN (fun j => g j y) i + rowsN g l i
  | 0 => rfl
  | i + 1 => by
    have h := rowsN_cons g y l i
    simp only [rowsN, hitsN, List.filter_cons, h]
    split <;> simp <;> omega
theorem rowsN_nil (g : Nat → S31 → Bool) : ∀ i, rowsN g [] i = 0
  | 0 => rfl
  | i + 1 => by simp [rowsN, rowsN_nil g i]
theorem rowsN_const (g : Nat → S31 → Bool) (m c : Nat) : ∀ l : List S31, (∀ y ∈ l, hitsN (fun j => g j y) m = c) → rowsN g l m = l.length * c
  | [], _ => by simp [rowsN_nil]
  | y :: l, h => by
    rw [rowsN_cons, h y (by simp), rowsN_const g m c l (fun z hz => h z (by simp [hz])), List.length_cons, Nat.succ_mul]
    omega
theorem hitsN_filter (f : Nat → Bool) : ∀ i, hitsN f i = ((List.range i).filter f).length
  | 0 => rfl
  | i + 1 => by
    rw [hitsN, hitsN_filter f i, List.range_succ, List.filter_append, List.length_append]
    cases h : f i <;> simp [List.filter_cons, h]
theorem copiesN_rows (n s k : Int) (P : List S66) : ∀ i, copiesN n s k P i = rowsN (fun j => hitB n s k P (j : Int)) (segsL s P) i
  | 0 => rfl
  | i + 1 => by rw [copiesN, rowsN, copiesN_rows n s k P i, ofL_hit]
theorem hits_len {m : Nat} {l : List Int} (hd : l.Nodup) (hm : ∀ x ∈ l, 0 ≤ x ∧ x < (m : Int)) : hitsN (fun j => hasB l (j : Int)) m = l.length := by
  rw [hitsN_filter]
  have h1 := nodup_sub (l := l) (m := ((List.range m).filter fun (j : Nat) => hasB l (j : Int)).map fun (j : Nat) => (j : Int)) hd (fun x hx => by
    obtain ⟨h0, h1⟩ := hm x hx
    obtain ⟨i, rfl⟩ := Int.eq_ofNat_of_zero_le h0
    exact List.mem_map.2 ⟨i, List.mem_filter.2 ⟨List.mem_range.2 (by omega), by unfold hasB; rw [List.contains_iff_mem]; exact hx⟩, rfl⟩)
  have h2 := nodup_sub (l := ((List.range m).filter fun (j : Nat) => hasB l (j : Int)).map fun (j : Nat) => (j : Int)) (m := l) (by
      rw [List.nodup_iff_pairwise_ne, List.pairwise_map]
      have := (List.nodup_iff_pairwise_ne.1 (List.nodup_range (n := m))).filter (fun (j : Nat) => hasB l (j : Int))
      exact this.imp (fun h e => h (by exact_mod_cast e))) (fun x hx => by
    obtain ⟨i, hi, rfl⟩ := List.mem_map.1 hx
    have := (List.mem_filter.1 hi).2
    unfold hasB at this
    rwa [List.contains_iff_mem] at this)
  rw [List.length_map] at h1 h2
  omega
/-- ALL COPIES TOGETHER. -/
theorem copies_all {nn : Nat} {s k : Int} {P : List S66} (g : Good nn s k P) : copiesN nn s k P nn = (P.length * s.toNat) * (k + 1).toNat := by
  rw [copiesN_rows, rowsN_const _ nn (k + 1).toNat _ (fun y hy => by
    rw [show (fun j : Nat => hitB nn s k P (j : Int) y) = fun j : Nat => hasB (nodesL nn s k P y.f0 y.f1) (j : Int) from rfl, hits_len (nodes_nodup g _ _) (fun x hx => nodesL_nonneg _ s k P g _ _ x hx), nodes_len (segs_range hy)]), segsL_length]
theorem copiesN_mono (n s k : Int) (P : List S66) {i j : Nat} (h : i ≤ j) : copiesN n s k P i ≤ copiesN n s k P j := by
  induction j with
  | zero => have : i = 0 := by omega
            subst this; exact Nat.le_refl _
  | succ j ih =>
    by_cases e : i = j + 1
    · subst e; exact Nat.le_refl _
    · exact Nat.le_trans (ih (by omega)) (by rw [copiesN]; omega)
end Go.Proofs.Ytnaaaldeadjohaa.Cat
