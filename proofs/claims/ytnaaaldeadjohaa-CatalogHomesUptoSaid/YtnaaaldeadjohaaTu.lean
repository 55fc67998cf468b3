import Derived.Test.YtnaaaldeadjohaaTt
set_option linter.unusedVariables false
set_option linter.unusedSimpArgs false
namespace Go.Proofs.Ytnaaaldeadjohaa.Cat
open Go.RowKit Go.Shelf Go.Proofs Go.Proofs.YtnaaaldeadjohaaW.PrintWords Go.Proofs.Ytnaaaldeadjohaa.PCatalogLies
/-- The five cells of a box that holds a catalog. -/
def CatBox (w : World) (b : Nat) (n s k : Int) (T : List S79) (P : List S66) (A3 : Option Addr) (c3 : Nat) (A4 : Option Addr) (c4 : Nat) : Prop :=
  w.cell? ⟨b, 0, none⟩ = some (.int .i64 n) ∧ w.cell? ⟨b, 1, none⟩ = some (.int .i64 s) ∧ w.cell? ⟨b, 2, none⟩ = some (.int .i64 k) ∧ w.cell? ⟨b, 3, none⟩ = some (.slice A3 T.length c3) ∧ w.cell? ⟨b, 4, none⟩ = some (.slice A4 P.length c4)
theorem CatBox.below {w w1 : World} {b : Nat} {n s k : Int} {T : List S79} {P : List S66} {A3 : Option Addr} {c3 : Nat} {A4 : Option Addr} {c4 : Nat} (h : CatBox w b n s k T P A3 c3 A4 c4) (hb : Below w.heap.size w w1) : CatBox w1 b n s k T P A3 c3 A4 c4 :=
  ⟨pw_cell_below hb h.1, pw_cell_below hb h.2.1, pw_cell_below hb h.2.2.1, pw_cell_below hb h.2.2.2.1, pw_cell_below hb h.2.2.2.2⟩
theorem CatBox.new (w : World) (n s k : Int) (T : List S79) (P : List S66) (A3 : Option Addr) (c3 : Nat) (A4 : Option Addr) (c4 : Nat) : CatBox (w.alloc (.cells #[.int .i64 n, .int .i64 s, .int .i64 k, .slice A3 T.length c3, .slice A4 P.length c4] 25)) w.heap.size n s k T P A3 c3 A4 c4 :=
  ⟨by simp [go_sem], by simp [go_sem], by simp [go_sem], by simp [go_sem], by simp [go_sem]⟩
set_option maxHeartbeats 8000000 in
set_option maxRecDepth 100000 in
theorem CatalogChecks_calls (n s k : Int) (T : List S79) (P : List S66) (A3 : Option Addr) (c3 : Nat) (A4 : Option Addr) (c4 : Nat) (w : World) (h : CatR w T P A3 c3 A4 c4) :
    Calls Try.prog 3 #[catV n s k T P A3 c3 A4 c4] w fun e w' => e = .returned (.bool true) ∧ Below w.heap.size w w' := by
  have hA := (Below.refl w.heap.size w).alloc (Nat.le_refl _) (.cells #[.int .i64 n, .int .i64 s, .int .i64 k, .slice A3 T.length c3, .slice A4 P.length c4] 25)
  have HA := Lib.hid hA
  have HCW := Lib.hid (h.below hA)
  have HQ := Lib.hid (CatBox.new w n s k T P A3 c3 A4 c4)
  clear hA h
  go_enter Try.func3, Try.ntmps3
  go_wp2
  generalize w.alloc (.cells #[.int .i64 n, .int .i64 s, .int .i64 k, .slice A3 T.length c3, .slice A4 P.length c4] 25) = W0 at *
  have HBD := Lib.hid (show Below W0.heap.size W0 W0 from Below.refl _ W0)
  have HBN := Lib.hid (show Below W0.heap.size W0 W0.drew from (Below.refl _ W0).drew)
  go_region_held3 (fun w' => w'.cell? ⟨w.heap.size, 0, none⟩ = some (.int .i64 n) ∧ w'.cell? ⟨w.heap.size, 1, none⟩ = some (.int .i64 s) ∧ w'.cell? ⟨w.heap.size, 2, none⟩ = some (.int .i64 k) ∧ w'.cell? ⟨w.heap.size, 3, none⟩ = some (.slice A3 T.length c3) ∧ w'.cell? ⟨w.heap.size, 4, none⟩ = some (.slice A4 P.length c4))
    (first | exact HQ.out.below HBN.out | exact HQ.out.below HBD.out)
    (first
      | (go_at_call 9; refine (alive_calls _).mono ?_; rintro e w1 ⟨rfl, hb⟩; have HBN2 := Lib.hid (HBN.out.trans (hb.mono HBN.out.size)); clear HBN; have HBN := HBN2; clear HBN2 hb)
      | (go_at_call 10; refine (check_calls n s k T P _ c3 _ c4 _ (HCW.out.below HBN.out)).mono ?_; rintro e w2 ⟨rfl, hb⟩; have HBN2 := Lib.hid (HBN.out.trans (hb.mono HBN.out.size)); clear HBN; have HBN := HBN2; clear HBN2 hb)
      | (go_at_call 11; refine (check2_calls n s k T P _ c3 _ c4 _ (HCW.out.below HBN.out)).mono ?_; rintro e w3 ⟨rfl, hb⟩; have HBN2 := Lib.hid (HBN.out.trans (hb.mono HBN.out.size)); clear HBN; have HBN := HBN2; clear HBN2 hb))
  go_wp2
  go_ret
  exact ⟨rfl, HA.out.trans (HBN.out.mono HA.out.size)⟩
end Go.Proofs.Ytnaaaldeadjohaa.Cat
