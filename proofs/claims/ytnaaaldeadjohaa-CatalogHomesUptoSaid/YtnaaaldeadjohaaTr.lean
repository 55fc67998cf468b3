import Derived.Test.YtnaaaldeadjohaaTq
set_option linter.unusedVariables false
set_option linter.unusedSimpArgs false
namespace Go.Proofs.Ytnaaaldeadjohaa.Cat
open Go.RowKit Go.Shelf Go.Proofs Go.Proofs.YtnaaaldeadjohaaW.PrintWords Go.Proofs.Ytnaaaldeadjohaa.PCatalogLies
/-! ### alive, and segments of the laws -/
theorem C_one {α : Type} {d : Kd α} {w : World} {g : Nat} {x : α} {cs : List Value} (hK : d.K w x cs) (hc : ∀ i u, cs[i]? = some u → w.cell? ⟨g, i, none⟩ = some u) : d.C w (some ⟨g, 0, none⟩) 1 [x] := by
  refine ⟨rfl, by omega, fun _ => ⟨_, rfl, fun j p hj => ?_⟩⟩
  rcases j with _ | j
  · obtain rfl : x = p := by simpa using hj
    refine ⟨cs, d.K_len hK, hK, fun i u hu => ?_⟩
    rw [add_plain]; simpa using hc i u hu
  · simp at hj
def Tl : List S79 := [⟨⟨#[116]⟩, [⟨⟨#[97]⟩, 2, false⟩]⟩]
def Pl : List S66 := [⟨⟨#[112]⟩, 0, [0], [], 0, 2⟩]
theorem lit_chk : chk 3 2 1 Tl Pl = 0 := by decide
theorem lit_nodes : nodesL 3 2 1 Pl 0 1 = [0, 1] := by decide
theorem lit_cov : covered 3 2 1 Pl [true, false, false] = true := by decide
theorem C_none {α : Type} (d : Kd α) (w : World) (A : Option Addr) : d.C w A 0 [] := ⟨rfl, by omega, fun h => absurd h (by omega)⟩
theorem lit_catR (w : World) : CatR (((((w.alloc (.cells #[.string ⟨#[97]⟩, .int .i64 2, .bool false] 76)).alloc (.cells #[.string ⟨#[116]⟩, .slice (some ⟨w.heap.size, 0, none⟩) 1 1] 79)).alloc (.cells #[.int .i64 0] 3)).alloc (.cells #[.string ⟨#[112]⟩, .int .i64 0, .slice (some ⟨w.heap.size + 1 + 1, 0, none⟩) 1 1, .slice none 0 0, .int .i64 0, .int .i64 2] 66)).alloc (.cells #[.int .i64 3, .int .i64 2, .int .i64 1, .slice (some ⟨w.heap.size + 1, 0, none⟩) 1 1, .slice (some ⟨w.heap.size + 1 + 1 + 1, 0, none⟩) 1 1] 25)) Tl Pl (some ⟨w.heap.size + 1, 0, none⟩) 1 (some ⟨w.heap.size + 1 + 1 + 1, 0, none⟩) 1 := by
  have c76 : k76.C (((((w.alloc (.cells #[.string ⟨#[97]⟩, .int .i64 2, .bool false] 76)).alloc (.cells #[.string ⟨#[116]⟩, .slice (some ⟨w.heap.size, 0, none⟩) 1 1] 79)).alloc (.cells #[.int .i64 0] 3)).alloc (.cells #[.string ⟨#[112]⟩, .int .i64 0, .slice (some ⟨w.heap.size + 1 + 1, 0, none⟩) 1 1, .slice none 0 0, .int .i64 0, .int .i64 2] 66)).alloc (.cells #[.int .i64 3, .int .i64 2, .int .i64 1, .slice (some ⟨w.heap.size + 1, 0, none⟩) 1 1, .slice (some ⟨w.heap.size + 1 + 1 + 1, 0, none⟩) 1 1] 25)) (some ⟨w.heap.size, 0, none⟩) 1 [⟨⟨#[97]⟩, 2, false⟩] := C_one (k76_mk _ _) (fun i u h => by rcases i with _ | _ | _ | i <;> simp at h <;> subst h <;> simp [go_sem])
  have c3 : (Kd.int .i64).C (((((w.alloc (.cells #[.string ⟨#[97]⟩, .int .i64 2, .bool false] 76)).alloc (.cells #[.string ⟨#[116]⟩, .slice (some ⟨w.heap.size, 0, none⟩) 1 1] 79)).alloc (.cells #[.int .i64 0] 3)).alloc (.cells #[.string ⟨#[112]⟩, .int .i64 0, .slice (some ⟨w.heap.size + 1 + 1, 0, none⟩) 1 1, .slice none 0 0, .int .i64 0, .int .i64 2] 66)).alloc (.cells #[.int .i64 3, .int .i64 2, .int .i64 1, .slice (some ⟨w.heap.size + 1, 0, none⟩) 1 1, .slice (some ⟨w.heap.size + 1 + 1 + 1, 0, none⟩) 1 1] 25)) (some ⟨w.heap.size + 1 + 1, 0, none⟩) 1 [0] := C_one (cs := [.int .i64 0]) rfl (fun i u h => by rcases i with _ | i <;> simp at h; subst h; simp [go_sem])
  refine ⟨C_one (k79_mk _ _ (Nat.le_refl _) c76) (fun i u h => by rcases i with _ | _ | i <;> simp at h <;> subst h <;> simp [go_sem]), Nat.le_refl _, C_one (k66_mk _ _ (Nat.le_refl _) c3 (c2 := 1) (c3 := 0) (Nat.le_refl _) (C_none _ _ none)) (fun i u h => by rcases i with _ | _ | _ | _ | _ | _ | i <;> simp at h <;> subst h <;> simp [go_sem]), Nat.le_refl _⟩
theorem lit_cell (w : World) (i : Nat) (u : Value) (h : [Value.int .i64 3, .int .i64 2, .int .i64 1, .slice (some ⟨w.heap.size + 1, 0, none⟩) 1 1, .slice (some ⟨w.heap.size + 1 + 1 + 1, 0, none⟩) 1 1][i]? = some u) : (((((w.alloc (.cells #[.string ⟨#[97]⟩, .int .i64 2, .bool false] 76)).alloc (.cells #[.string ⟨#[116]⟩, .slice (some ⟨w.heap.size, 0, none⟩) 1 1] 79)).alloc (.cells #[.int .i64 0] 3)).alloc (.cells #[.string ⟨#[112]⟩, .int .i64 0, .slice (some ⟨w.heap.size + 1 + 1, 0, none⟩) 1 1, .slice none 0 0, .int .i64 0, .int .i64 2] 66)).alloc (.cells #[.int .i64 3, .int .i64 2, .int .i64 1, .slice (some ⟨w.heap.size + 1, 0, none⟩) 1 1, .slice (some ⟨w.heap.size + 1 + 1 + 1, 0, none⟩) 1 1] 25)).cell? ⟨w.heap.size + 1 + 1 + 1 + 1, i, none⟩ = some u := by
  rcases i with _ | _ | _ | _ | _ | i <;> simp at h <;> subst h <;> simp [go_sem]
theorem lit_below (w : World) : Below w.heap.size w (((((w.alloc (.cells #[.string ⟨#[97]⟩, .int .i64 2, .bool false] 76)).alloc (.cells #[.string ⟨#[116]⟩, .slice (some ⟨w.heap.size, 0, none⟩) 1 1] 79)).alloc (.cells #[.int .i64 0] 3)).alloc (.cells #[.string ⟨#[112]⟩, .int .i64 0, .slice (some ⟨w.heap.size + 1 + 1, 0, none⟩) 1 1, .slice none 0 0, .int .i64 0, .int .i64 2] 66)).alloc (.cells #[.int .i64 3, .int .i64 2, .int .i64 1, .slice (some ⟨w.heap.size + 1, 0, none⟩) 1 1, .slice (some ⟨w.heap.size + 1 + 1 + 1, 0, none⟩) 1 1] 25)) := (((((Below.refl _ w).alloc (Nat.le_refl _) _).alloc (by simp) _).alloc (by simp; omega) _).alloc (by simp; omega) _).alloc (by simp; omega) _
theorem bools3 {w : World} {g : Nat} {a b c : Bool} (h0 : w.cell? ⟨g, 0, none⟩ = some (.bool a)) (h1 : w.cell? ⟨g, 1, none⟩ = some (.bool b)) (h2 : w.cell? ⟨g, 2, none⟩ = some (.bool c)) : Kd.bool.C w (some ⟨g, 0, none⟩) 3 [a, b, c] := by
  refine ⟨rfl, by omega, fun _ => ⟨_, rfl, fun j p hj => ?_⟩⟩
  rcases j with _ | _ | _ | j
  · obtain rfl : a = p := by simpa using hj
    exact ⟨[.bool a], rfl, rfl, fun i u hu => by rcases i with _ | i <;> simp at hu; subst hu; rw [add_plain]; exact h0⟩
  · obtain rfl : b = p := by simpa using hj
    exact ⟨[.bool b], rfl, rfl, fun i u hu => by rcases i with _ | i <;> simp at hu; subst hu; rw [add_plain]; exact h1⟩
  · obtain rfl : c = p := by simpa using hj
    exact ⟨[.bool c], rfl, rfl, fun i u hu => by rcases i with _ | i <;> simp at hu; subst hu; rw [add_plain]; exact h2⟩
  · simp at hj
theorem lit_good : Good 3 2 1 Pl := good_of (T := Tl) (by decide) (by decide) (by decide)
set_option maxHeartbeats 4000000 in
set_option maxRecDepth 100000 in
/-- The laws' own trial: it holds. -/
theorem alive_calls (w : World) : Calls Try.prog 9 #[] w fun e w' => e = .returned (.bool true) ∧ Below w.heap.size w w' := by
  have HR := Lib.hid (lit_catR w)
  have HB := Lib.hid (lit_below w)
  have q0 := lit_cell w 0 _ rfl
  have q1 := lit_cell w 1 _ rfl
  have q2 := lit_cell w 2 _ rfl
  have q3 := lit_cell w 3 _ rfl
  have q4 := lit_cell w 4 _ rfl
  go_enter Try.func9, Try.ntmps9
  go_wp2_with (fail)
  generalize (((((w.alloc (.cells #[.string ⟨#[97]⟩, .int .i64 2, .bool false] 76)).alloc (.cells #[.string ⟨#[116]⟩, .slice (some ⟨w.heap.size, 0, none⟩) 1 1] 79)).alloc (.cells #[.int .i64 0] 3)).alloc (.cells #[.string ⟨#[112]⟩, .int .i64 0, .slice (some ⟨w.heap.size + 1 + 1, 0, none⟩) 1 1, .slice none 0 0, .int .i64 0, .int .i64 2] 66)).alloc (.cells #[.int .i64 3, .int .i64 2, .int .i64 1, .slice (some ⟨w.heap.size + 1, 0, none⟩) 1 1, .slice (some ⟨w.heap.size + 1 + 1 + 1, 0, none⟩) 1 1] 25)) = W0 at *
  refine (nodes_calls (T := Tl) lit_good HR.out 0 1).mono ?_
  rintro e w1 ⟨A, c, rfl, hle, hC, hb⟩
  rw [lit_nodes] at hle hC ⊢
  have HB1 := Lib.hid hb
  have HC1 := Lib.hid hC
  replace q0 := pw_cell_below hb q0
  replace q1 := pw_cell_below hb q1
  replace q2 := pw_cell_below hb q2
  replace q3 := pw_cell_below hb q3
  replace q4 := pw_cell_below hb q4
  clear hb hC
  go_wp2_with (fail)
  refine (check_calls 3 2 1 Tl Pl _ _ _ _ w1 (HR.out.below HB1.out)).mono ?_
  rintro e w2 ⟨rfl, hb⟩
  rw [lit_chk]
  replace q0 := pw_cell_below hb q0
  replace q1 := pw_cell_below hb q1
  replace q2 := pw_cell_below hb q2
  replace q3 := pw_cell_below hb q3
  replace q4 := pw_cell_below hb q4
  have HB2 := Lib.hid (HB1.out.trans (hb.mono HB1.out.size))
  obtain ⟨ad, e1, x0⟩ := int_at (Kd.C_below HC1.out hb) 0 (by simp)
  cases e1
  obtain ⟨ad1, e1, x1⟩ := int_at (Kd.C_below HC1.out hb) 1 (by simp)
  cases e1
  simp at x0 x1
  replace x0 : w2.cell? ad = some (.int .i64 0) := by rwa [show ad.add 0 = ad by simp [Addr.add]] at x0
  replace x1 : w2.cell? ⟨ad.block, ad.off + 1, none⟩ = some (.int .i64 1) := by rwa [show ad.add 1 = ⟨ad.block, ad.off + 1, none⟩ by simp [Addr.add]] at x1
  clear hb
  have hbx : Below w.heap.size w (w2.alloc (.cells #[.bool true, .bool false, .bool false] 4)) := (HB.out.trans (HB2.out.mono HB.out.size)).alloc (HB.out.trans (HB2.out.mono HB.out.size)).size _
  have HBX := Lib.hid hbx
  have HCX := Lib.hid (HR.out.below (HB2.out.trans (((Below.refl w2.heap.size w2).alloc (Nat.le_refl _) (.cells #[.bool true, .bool false, .bool false] 4)).mono HB2.out.size)))
  clear hbx
  go_wp2_with (fail)
  refine (cov_calls 3 2 1 Tl Pl _ _ _ _ (some ⟨w2.heap.size, 0, none⟩) 3 [true, false, false] _ lit_good HCX.out (bools3 (by simp [go_sem]) (by simp [go_sem]) (by simp [go_sem])) (Nat.le_refl _)).mono ?_
  rintro e w3 ⟨rfl, hb⟩
  rw [lit_cov]
  have HZ := Lib.hid (HBX.out.trans (hb.mono HBX.out.size))
  clear hb q0 q1 q2 q3 q4 x0 x1
  go_wp2
  go_ret
  exact ⟨rfl, HZ.out⟩
end Go.Proofs.Ytnaaaldeadjohaa.Cat
