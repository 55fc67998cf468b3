import Derived.Test.YtnaaaldeadjohaaTk
import Derived.RangeFuncNested
import Derived.RangeFuncBound
import Derived.RangeFuncCalls
import Derived.RangeFuncLeaves
import Derived.Shelf.Abstract
import Derived.Shelf.RegionOpen
import Derived.OwnWalkIn
import Derived.TacticsInMore
import Derived.LoopNIn
import Derived.LoopIn
set_option linter.unusedVariables false
set_option linter.unusedSimpArgs false
namespace Go.Proofs.Ytnaaaldeadjohaa.Cat
open Go.RowKit Go.Shelf Go.Proofs Go.Proofs.YtnaaaldeadjohaaW.PrintWords Go.Proofs.Ytnaaaldeadjohaa.PCatalogLies
attribute [local go_sem] Oper.semAt_some
/-- Block B lies as it lay. -/
def SameAt (B : Nat) (W W' : World) : Prop := W'.heap[B]? = W.heap[B]?
theorem SameAt.trans {B : Nat} {X Y Z : World} (h : SameAt B X Y) (k : SameAt B Y Z) : SameAt B X Z := Eq.trans k h
theorem cell_same {B : Nat} {W W' : World} (h : SameAt B W W') (j : Nat) : W'.cell? ⟨B, j, none⟩ = W.cell? ⟨B, j, none⟩ := by
  unfold World.cell?
  rw [show W'.heap[B]? = W.heap[B]? from h]
@[reducible] def segV (x : S31) : Value := .agg #[.int .i64 x.f0, .int .i64 x.f1]
theorem segsOne_succ (s : Int) (a b : Nat) : segsOne s a (b + 1) = segsOne s a b ++ [(⟨(a : Int), (b : Int)⟩ : S31)] := by simp [segsOne, List.range_succ]
theorem segsPre_prefix (s : Int) {a m : Nat} (h : a ≤ m) : segsPre s a <+: segsPre s m := by
  obtain ⟨d, rfl⟩ : ∃ d, m = a + d := ⟨m - a, by omega⟩
  clear h
  induction d with
  | zero => exact List.prefix_refl _
  | succ d ih => exact ih.trans (by rw [← Nat.add_assoc, segsPre_succ]; exact List.prefix_append _ _)
theorem segsOne_prefix (s : Int) (a : Nat) {b m : Nat} (h : b ≤ m) : segsOne s a b <+: segsOne s a m := by
  obtain ⟨d, rfl⟩ : ∃ d, m = b + d := ⟨m - b, by omega⟩
  clear h
  induction d with
  | zero => exact List.prefix_refl _
  | succ d ih => exact ih.trans (by rw [← Nat.add_assoc, segsOne_succ]; exact List.prefix_append _ _)
set_option maxRecDepth 100000 in
set_option maxHeartbeats 2000000 in
/-- The iterator of Segments, at whatever body keeps what lay below n₀. -/
theorem segs1_in (F : Fence) (n : Nat) (h62 : F.fn 62) (hro : F.round = none) (hn : 1 ≤ n) (l B : Nat) (s : Int) (m c4 : Nat) (A4 : Option Addr) (hs : 0 ≤ s ∧ s ≤ 8) (hm : m ≤ 8) (J Jx : List S31 → World → Prop)
    (hY : ∀ pre x W, J pre W → pre.length < m * s.toNat → YieldAt F (n - 1) Try.prog l #[segV x] W fun e W' =>
      (e = .returned (.bool true) ∧ J (pre ++ [x]) W' ∧ SameAt B W W') ∨ (e = .returned (.bool false) ∧ Jx (pre ++ [x]) W'))
    (W : World) (hc1 : W.cell? ⟨B, 1, none⟩ = some (.int .i64 s)) (hc4 : W.cell? ⟨B, 4, none⟩ = some (.slice A4 m c4)) (h0 : J [] W) :
    CallsIn F n Try.prog 62 #[.func (.yield l) #[] #[], .pointer (some ⟨B, 0, none⟩)] W fun e W' => (∃ v, e = .returned v) ∧
      ((∃ ys, ys = segsPre s m ∧ J ys W') ∨ (∃ pre, pre <+: segsPre s m ∧ Jx pre W')) := by
  have HY := Lib.hid hY
  clear hY
  refine callsIn_of_wp Try.func62 rfl h62 ?_ hro
  simp only [Try.ntmps62, List.size_toArray, List.length_cons, List.length_nil, Nat.reduceAdd, Nat.reduceSub, Array.replicate_succ, Array.replicate_zero, List.push_toArray, List.append_toArray, List.nil_append, List.cons_append]
  gi_wp2
  gi_loopw [8] (fun v wr => ∃ a : Nat, v = .int .i64 a ∧ a ≤ m ∧ Hid (J (segsPre s a) wr) ∧ wr.cell? ⟨B, 1, none⟩ = some (.int .i64 s)) (fun v _ => m - (intOf v).toNat)
  case atStart => exact ⟨0, rfl, Nat.zero_le _, Lib.hid h0, hc1⟩
  case round =>
    obtain ⟨a, rfl, ha, HJ, hc1⟩ := hrel
    obtain ⟨wo, rfl⟩ : ∃ wo : World, wo = wr := ⟨_, rfl⟩
    by_cases hlt : a < m
    · gi_wp2
      gi_loopw [13] (fun v wr => ∃ b : Nat, v = .int .i64 b ∧ b ≤ s.toNat ∧ Hid (J (segsPre s a ++ segsOne s a b) wr) ∧ wr.cell? ⟨B, 1, none⟩ = some (.int .i64 s)) (fun v _ => s.toNat - (intOf v).toNat)
      case atStart => exact ⟨0, rfl, Nat.zero_le _, Lib.hid (by simpa [segsOne] using HJ.out), hc1⟩
      case round =>
        obtain ⟨b, rfl, hb, HJ2, hc1⟩ := hrel
        by_cases hlb : b < s.toNat
        · have hlb' : (b : Int) < s := by omega
          obtain ⟨fn, tmps, assign, body, hy, hR⟩ := HY.out (segsPre s a ++ segsOne s a b) ⟨(a : Int), (b : Int)⟩ wr HJ2.out (by
            rw [List.length_append, segsPre_length]
            have : (segsOne s a b).length = b := by simp [segsOne]
            rw [this]
            have := Nat.mul_le_mul_right s.toNat hlt
            rw [Nat.succ_mul] at this
            omega)
          dsimp only [segV] at hy
          gi_wp2
          refine hR.mono ?_
          rintro e W3 (⟨rfl, hJ3, hk3⟩ | ⟨rfl, hJx3⟩)
          · have hc1' : W3.cell? ⟨B, 1, none⟩ = some (.int .i64 s) := (cell_same hk3 1).trans hc1
            have HJ3 := Lib.hid hJ3
            clear hk3 hJ3 hy hR
            gi_wp2
            go_roundw
            case rel => exact ⟨b + 1, by go_num, hlb, Lib.hid (by rw [segsOne_succ, ← List.append_assoc]; exact HJ3.out), hc1'⟩
            case measure => simp [intOf]; omega
          · have HX := Lib.hid hJx3
            clear hJx3 hy hR
            gi_wp2
            refine bodyPost_ret (results_none rfl _ _ _) rfl ?_
            refine ⟨⟨_, rfl⟩, .inr ⟨_, ?_, HX.out⟩⟩
            rw [List.append_assoc, ← segsOne_succ]
            exact ((List.prefix_append_right_inj _).2 (segsOne_prefix s a hlb)).trans (by rw [← segsPre_succ]; exact segsPre_prefix s hlt)
        · obtain rfl : b = s.toNat := by omega
          have hge : ¬ ((s.toNat : Int) < s) := by omega
          gi_wp2
          go_roundw
          case rel => exact ⟨a + 1, by go_num, hlt, Lib.hid (by rw [segsPre_succ]; exact HJ2.out), hc1⟩
          case measure => simp [intOf]; omega
    · obtain rfl : a = m := by omega
      gi_wp2
      go_end0
      exact ⟨⟨_, rfl⟩, .inl ⟨_, rfl, HJ.out⟩⟩
end Go.Proofs.Ytnaaaldeadjohaa.Cat
