import Derived.Test.YtnaaaldeadjohaaMc
set_option linter.unusedVariables false
set_option linter.unusedSimpArgs false
namespace Go.Proofs.Ytnaaaldeadjohaa.Cat
open Go.RowKit Go.Shelf Go.Proofs Go.Proofs.YtnaaaldeadjohaaW.PrintWords Go.Proofs.Ytnaaaldeadjohaa.PCatalogLies
/-! ### Values, rows, versions, parts: how they lie in memory -/
/-! #### struct type 97 -/
structure S97 where
  f0 : Int
  f1 : Bool
  f2 : Int
  f3 : ByteArray
def z97 : S97 := ⟨(0 : Int), false, (0 : Int), (⟨#[]⟩ : ByteArray)⟩
def k97 : Kd S97 := Kd.iso (Kd.pair (Kd.int .i64) (Kd.pair Kd.bool (Kd.pair (Kd.int .i64) Kd.string))) (fun x : S97 => (x.f0, x.f1, x.f2, x.f3))
theorem k97_open {w : World} {x : S97} {cs : List Value} (h : k97.K w x cs) : cs = [.int .i64 x.f0, .bool x.f1, .int .i64 x.f2, .string x.f3] := by
  obtain ⟨_, _, rfl, rfl, ⟨_, _, rfl, rfl, ⟨_, _, rfl, rfl, rfl⟩⟩⟩ := h
  exact rfl
theorem k97_openM {w : World} {base : Nat} {ok : Nat → Prop} {x : S97} {cs : List Value} (h : k97.M w base ok x cs) : cs = [.int .i64 x.f0, .bool x.f1, .int .i64 x.f2, .string x.f3] := by
  obtain ⟨_, _, rfl, rfl, ⟨_, _, rfl, rfl, ⟨_, _, rfl, rfl, rfl⟩⟩⟩ := h
  exact rfl
theorem k97_mk (w : World) (x : S97)  : k97.K w x [.int .i64 x.f0, .bool x.f1, .int .i64 x.f2, .string x.f3] := ⟨[.int .i64 x.f0], [.bool x.f1, .int .i64 x.f2, .string x.f3], rfl, rfl, ⟨[.bool x.f1], [.int .i64 x.f2, .string x.f3], rfl, rfl, ⟨[.int .i64 x.f2], [.string x.f3], rfl, rfl, rfl⟩⟩⟩
theorem k97_mkM (w : World) (base : Nat) (ok : Nat → Prop) (x : S97)  : k97.M w base ok x [.int .i64 x.f0, .bool x.f1, .int .i64 x.f2, .string x.f3] := ⟨[.int .i64 x.f0], [.bool x.f1, .int .i64 x.f2, .string x.f3], rfl, rfl, ⟨[.bool x.f1], [.int .i64 x.f2, .string x.f3], rfl, rfl, ⟨[.int .i64 x.f2], [.string x.f3], rfl, rfl, rfl⟩⟩⟩
def rd_T97 (xs : List S97) (i : Int) : S97 := xs.getD i.toNat z97
theorem at_T97 {w : World} {A : Option Addr} {n : Nat} {xs : List S97} (h : Kd.C k97 w A n xs) (i : Int) (h0 : 0 ≤ i) (h1 : i < n) : ∃ ad , A = some ad ∧ w.cell? (ad.add (i.toNat * 4)) = some (.int .i64 (rd_T97 xs i).f0) ∧ w.cell? ⟨(ad.add (i.toNat * 4)).block, (ad.add (i.toNat * 4)).off + 1, none⟩ = some (.bool (rd_T97 xs i).f1) ∧ w.cell? ⟨(ad.add (i.toNat * 4)).block, (ad.add (i.toNat * 4)).off + 2, none⟩ = some (.int .i64 (rd_T97 xs i).f2) ∧ w.cell? ⟨(ad.add (i.toNat * 4)).block, (ad.add (i.toNat * 4)).off + 3, none⟩ = some (.string (rd_T97 xs i).f3) := by
  obtain ⟨ad, c, e, _, hK, hc0⟩ := Kd.C_get h z97 i h0 h1
  have hc : ∀ j u, c[j]? = some u → w.cell? (ad.add (i.toNat * 4 + j)) = some u := hc0
  obtain rfl := k97_open hK
  exact ⟨ad, e, hc 0 _ rfl, by rw [← add_field _ _ 1 (by omega)]; exact hc 1 _ rfl, by rw [← add_field _ _ 2 (by omega)]; exact hc 2 _ rfl, by rw [← add_field _ _ 3 (by omega)]; exact hc 3 _ rfl⟩

/-! #### struct type 53 -/
structure S53 where
  f0 : Int
  f1 : Int
def z53 : S53 := ⟨(0 : Int), (0 : Int)⟩
def k53 : Kd S53 := Kd.iso (Kd.pair (Kd.int .u64) (Kd.int .u32)) (fun x : S53 => (x.f0, x.f1))
theorem k53_open {w : World} {x : S53} {cs : List Value} (h : k53.K w x cs) : cs = [.int .u64 x.f0, .int .u32 x.f1] := by
  obtain ⟨_, _, rfl, rfl, rfl⟩ := h
  exact rfl
theorem k53_openM {w : World} {base : Nat} {ok : Nat → Prop} {x : S53} {cs : List Value} (h : k53.M w base ok x cs) : cs = [.int .u64 x.f0, .int .u32 x.f1] := by
  obtain ⟨_, _, rfl, rfl, rfl⟩ := h
  exact rfl
theorem k53_mk (w : World) (x : S53)  : k53.K w x [.int .u64 x.f0, .int .u32 x.f1] := ⟨[.int .u64 x.f0], [.int .u32 x.f1], rfl, rfl, rfl⟩
theorem k53_mkM (w : World) (base : Nat) (ok : Nat → Prop) (x : S53)  : k53.M w base ok x [.int .u64 x.f0, .int .u32 x.f1] := ⟨[.int .u64 x.f0], [.int .u32 x.f1], rfl, rfl, rfl⟩
def rd_T53 (xs : List S53) (i : Int) : S53 := xs.getD i.toNat z53
theorem at_T53 {w : World} {A : Option Addr} {n : Nat} {xs : List S53} (h : Kd.C k53 w A n xs) (i : Int) (h0 : 0 ≤ i) (h1 : i < n) : ∃ ad , A = some ad ∧ w.cell? (ad.add (i.toNat * 2)) = some (.int .u64 (rd_T53 xs i).f0) ∧ w.cell? ⟨(ad.add (i.toNat * 2)).block, (ad.add (i.toNat * 2)).off + 1, none⟩ = some (.int .u32 (rd_T53 xs i).f1) := by
  obtain ⟨ad, c, e, _, hK, hc0⟩ := Kd.C_get h z53 i h0 h1
  have hc : ∀ j u, c[j]? = some u → w.cell? (ad.add (i.toNat * 2 + j)) = some u := hc0
  obtain rfl := k53_open hK
  exact ⟨ad, e, hc 0 _ rfl, by rw [← add_field _ _ 1 (by omega)]; exact hc 1 _ rfl⟩

def rd_L13 (xs : List (List S97)) (i : Int) : (List S97) := xs.getD i.toNat ([] : List S97)
theorem at_L13 {w : World} {A : Option Addr} {n : Nat} {xs : List (List S97)} (h : Kd.C (Kd.slice 97 k97) w A n xs) (i : Int) (h0 : 0 ≤ i) (h1 : i < n) : ∃ ad A0 c0, A = some ad ∧ w.cell? (ad.add i.toNat) = some (.slice A0 (rd_L13 xs i).length c0) ∧ (rd_L13 xs i).length ≤ c0 ∧ k97.C w A0 (rd_L13 xs i).length (rd_L13 xs i) := by
  obtain ⟨ad, c, e, _, hK, hc0⟩ := Kd.C_get h ([] : List S97) i h0 h1
  have hc : ∀ j u, c[j]? = some u → w.cell? (ad.add (i.toNat * 1 + j)) = some u := hc0
  obtain ⟨A0, c0, rfl, l0, g0⟩ := hK
  exact ⟨ad, A0, c0, e, by have hq := hc 0 _ rfl; rwa [Nat.mul_one, Nat.add_zero] at hq, l0, g0⟩

/-! #### struct type 68 -/
structure S68 where
  f0 : S53
  f1 : (List S97)
  f2 : Int
def z68 : S68 := ⟨z53, ([] : List S97), (0 : Int)⟩
def k68 : Kd S68 := Kd.iso (Kd.pair k53 (Kd.pair (Kd.slice 97 k97) (Kd.int .u64))) (fun x : S68 => (x.f0, x.f1, x.f2))
theorem k68_open {w : World} {x : S68} {cs : List Value} (h : k68.K w x cs) : ∃ A2 c2, cs = [.int .u64 x.f0.f0, .int .u32 x.f0.f1, .slice A2 x.f1.length c2, .int .u64 x.f2] ∧ x.f1.length ≤ c2 ∧ k97.C w A2 x.f1.length x.f1 := by
  obtain ⟨_, _, rfl, s0, ⟨_, _, rfl, ⟨A2, c2, rfl, l2, g2⟩, rfl⟩⟩ := h
  obtain rfl := k53_open s0
  exact ⟨A2, c2, rfl, l2, g2⟩
theorem k68_openM {w : World} {base : Nat} {ok : Nat → Prop} {x : S68} {cs : List Value} (h : k68.M w base ok x cs) : ∃ v2, cs = [.int .u64 x.f0.f0, .int .u32 x.f0.f1, v2, .int .u64 x.f2] ∧ k97.R 97 w base ok v2 x.f1 := by
  obtain ⟨_, _, rfl, s0, ⟨_, _, rfl, ⟨v2, rfl, g2⟩, rfl⟩⟩ := h
  obtain rfl := k53_openM s0
  exact ⟨v2, rfl, g2⟩
theorem k68_mk (w : World) (x : S68) {A2 : Option Addr} {c2 : Nat} (l2 : x.f1.length ≤ c2) (g2 : k97.C w A2 x.f1.length x.f1) : k68.K w x [.int .u64 x.f0.f0, .int .u32 x.f0.f1, .slice A2 x.f1.length c2, .int .u64 x.f2] := ⟨[.int .u64 x.f0.f0, .int .u32 x.f0.f1], [.slice A2 x.f1.length c2, .int .u64 x.f2], rfl, (k53_mk w x.f0 ), ⟨[.slice A2 x.f1.length c2], [.int .u64 x.f2], rfl, ⟨A2, c2, rfl, l2, g2⟩, rfl⟩⟩
theorem k68_mkM (w : World) (base : Nat) (ok : Nat → Prop) (x : S68) {v2 : Value} (g2 : k97.R 97 w base ok v2 x.f1) : k68.M w base ok x [.int .u64 x.f0.f0, .int .u32 x.f0.f1, v2, .int .u64 x.f2] := ⟨[.int .u64 x.f0.f0, .int .u32 x.f0.f1], [v2, .int .u64 x.f2], rfl, (k53_mkM w base ok x.f0 ), ⟨[v2], [.int .u64 x.f2], rfl, ⟨v2, rfl, g2⟩, rfl⟩⟩
def rd_T68 (xs : List S68) (i : Int) : S68 := xs.getD i.toNat z68
theorem at_T68 {w : World} {A : Option Addr} {n : Nat} {xs : List S68} (h : Kd.C k68 w A n xs) (i : Int) (h0 : 0 ≤ i) (h1 : i < n) : ∃ ad A2 c2, A = some ad ∧ w.cell? (ad.add (i.toNat * 4)) = some (.int .u64 (rd_T68 xs i).f0.f0) ∧ w.cell? ⟨(ad.add (i.toNat * 4)).block, (ad.add (i.toNat * 4)).off + 1, none⟩ = some (.int .u32 (rd_T68 xs i).f0.f1) ∧ w.cell? ⟨(ad.add (i.toNat * 4)).block, (ad.add (i.toNat * 4)).off + 2, none⟩ = some (.slice A2 (rd_T68 xs i).f1.length c2) ∧ w.cell? ⟨(ad.add (i.toNat * 4)).block, (ad.add (i.toNat * 4)).off + 3, none⟩ = some (.int .u64 (rd_T68 xs i).f2) ∧ (rd_T68 xs i).f1.length ≤ c2 ∧ k97.C w A2 (rd_T68 xs i).f1.length (rd_T68 xs i).f1 := by
  obtain ⟨ad, c, e, _, hK, hc0⟩ := Kd.C_get h z68 i h0 h1
  have hc : ∀ j u, c[j]? = some u → w.cell? (ad.add (i.toNat * 4 + j)) = some u := hc0
  obtain ⟨A2, c2, rfl, l2, g2⟩ := k68_open hK
  exact ⟨ad, A2, c2, e, hc 0 _ rfl, by rw [← add_field _ _ 1 (by omega)]; exact hc 1 _ rfl, by rw [← add_field _ _ 2 (by omega)]; exact hc 2 _ rfl, by rw [← add_field _ _ 3 (by omega)]; exact hc 3 _ rfl, l2, g2⟩

/-! #### struct type 70 -/
structure S70 where
  f0 : S31
  f1 : S68
def z70 : S70 := ⟨z31, z68⟩
def k70 : Kd S70 := Kd.iso (Kd.pair k31 k68) (fun x : S70 => (x.f0, x.f1))
theorem k70_open {w : World} {x : S70} {cs : List Value} (h : k70.K w x cs) : ∃ A4 c4, cs = [.int .i64 x.f0.f0, .int .i64 x.f0.f1, .int .u64 x.f1.f0.f0, .int .u32 x.f1.f0.f1, .slice A4 x.f1.f1.length c4, .int .u64 x.f1.f2] ∧ x.f1.f1.length ≤ c4 ∧ k97.C w A4 x.f1.f1.length x.f1.f1 := by
  obtain ⟨_, _, rfl, s0, s2⟩ := h
  obtain rfl := k31_open s0
  obtain ⟨A4, c4, rfl, l4, g4⟩ := k68_open s2
  exact ⟨A4, c4, rfl, l4, g4⟩
theorem k70_openM {w : World} {base : Nat} {ok : Nat → Prop} {x : S70} {cs : List Value} (h : k70.M w base ok x cs) : ∃ v4, cs = [.int .i64 x.f0.f0, .int .i64 x.f0.f1, .int .u64 x.f1.f0.f0, .int .u32 x.f1.f0.f1, v4, .int .u64 x.f1.f2] ∧ k97.R 97 w base ok v4 x.f1.f1 := by
  obtain ⟨_, _, rfl, s0, s2⟩ := h
  obtain rfl := k31_openM s0
  obtain ⟨v4, rfl, g4⟩ := k68_openM s2
  exact ⟨v4, rfl, g4⟩
theorem k70_mk (w : World) (x : S70) {A4 : Option Addr} {c4 : Nat} (l4 : x.f1.f1.length ≤ c4) (g4 : k97.C w A4 x.f1.f1.length x.f1.f1) : k70.K w x [.int .i64 x.f0.f0, .int .i64 x.f0.f1, .int .u64 x.f1.f0.f0, .int .u32 x.f1.f0.f1, .slice A4 x.f1.f1.length c4, .int .u64 x.f1.f2] := ⟨[.int .i64 x.f0.f0, .int .i64 x.f0.f1], [.int .u64 x.f1.f0.f0, .int .u32 x.f1.f0.f1, .slice A4 x.f1.f1.length c4, .int .u64 x.f1.f2], rfl, (k31_mk w x.f0 ), (k68_mk w x.f1 l4 g4)⟩
theorem k70_mkM (w : World) (base : Nat) (ok : Nat → Prop) (x : S70) {v4 : Value} (g4 : k97.R 97 w base ok v4 x.f1.f1) : k70.M w base ok x [.int .i64 x.f0.f0, .int .i64 x.f0.f1, .int .u64 x.f1.f0.f0, .int .u32 x.f1.f0.f1, v4, .int .u64 x.f1.f2] := ⟨[.int .i64 x.f0.f0, .int .i64 x.f0.f1], [.int .u64 x.f1.f0.f0, .int .u32 x.f1.f0.f1, v4, .int .u64 x.f1.f2], rfl, (k31_mkM w base ok x.f0 ), (k68_mkM w base ok x.f1 g4)⟩
def rd_T70 (xs : List S70) (i : Int) : S70 := xs.getD i.toNat z70
theorem at_T70 {w : World} {A : Option Addr} {n : Nat} {xs : List S70} (h : Kd.C k70 w A n xs) (i : Int) (h0 : 0 ≤ i) (h1 : i < n) : ∃ ad A4 c4, A = some ad ∧ w.cell? (ad.add (i.toNat * 6)) = some (.int .i64 (rd_T70 xs i).f0.f0) ∧ w.cell? ⟨(ad.add (i.toNat * 6)).block, (ad.add (i.toNat * 6)).off + 1, none⟩ = some (.int .i64 (rd_T70 xs i).f0.f1) ∧ w.cell? ⟨(ad.add (i.toNat * 6)).block, (ad.add (i.toNat * 6)).off + 2, none⟩ = some (.int .u64 (rd_T70 xs i).f1.f0.f0) ∧ w.cell? ⟨(ad.add (i.toNat * 6)).block, (ad.add (i.toNat * 6)).off + 3, none⟩ = some (.int .u32 (rd_T70 xs i).f1.f0.f1) ∧ w.cell? ⟨(ad.add (i.toNat * 6)).block, (ad.add (i.toNat * 6)).off + 4, none⟩ = some (.slice A4 (rd_T70 xs i).f1.f1.length c4) ∧ w.cell? ⟨(ad.add (i.toNat * 6)).block, (ad.add (i.toNat * 6)).off + 5, none⟩ = some (.int .u64 (rd_T70 xs i).f1.f2) ∧ (rd_T70 xs i).f1.f1.length ≤ c4 ∧ k97.C w A4 (rd_T70 xs i).f1.f1.length (rd_T70 xs i).f1.f1 := by
  obtain ⟨ad, c, e, _, hK, hc0⟩ := Kd.C_get h z70 i h0 h1
  have hc : ∀ j u, c[j]? = some u → w.cell? (ad.add (i.toNat * 6 + j)) = some u := hc0
  obtain ⟨A4, c4, rfl, l4, g4⟩ := k70_open hK
  exact ⟨ad, A4, c4, e, hc 0 _ rfl, by rw [← add_field _ _ 1 (by omega)]; exact hc 1 _ rfl, by rw [← add_field _ _ 2 (by omega)]; exact hc 2 _ rfl, by rw [← add_field _ _ 3 (by omega)]; exact hc 3 _ rfl, by rw [← add_field _ _ 4 (by omega)]; exact hc 4 _ rfl, by rw [← add_field _ _ 5 (by omega)]; exact hc 5 _ rfl, l4, g4⟩

/-! #### struct type 72 -/
structure S72 where
  f0 : S31
  f1 : S53
def z72 : S72 := ⟨z31, z53⟩
def k72 : Kd S72 := Kd.iso (Kd.pair k31 k53) (fun x : S72 => (x.f0, x.f1))
theorem k72_open {w : World} {x : S72} {cs : List Value} (h : k72.K w x cs) : cs = [.int .i64 x.f0.f0, .int .i64 x.f0.f1, .int .u64 x.f1.f0, .int .u32 x.f1.f1] := by
  obtain ⟨_, _, rfl, s0, s2⟩ := h
  obtain rfl := k31_open s0
  obtain rfl := k53_open s2
  exact rfl
theorem k72_openM {w : World} {base : Nat} {ok : Nat → Prop} {x : S72} {cs : List Value} (h : k72.M w base ok x cs) : cs = [.int .i64 x.f0.f0, .int .i64 x.f0.f1, .int .u64 x.f1.f0, .int .u32 x.f1.f1] := by
  obtain ⟨_, _, rfl, s0, s2⟩ := h
  obtain rfl := k31_openM s0
  obtain rfl := k53_openM s2
  exact rfl
theorem k72_mk (w : World) (x : S72)  : k72.K w x [.int .i64 x.f0.f0, .int .i64 x.f0.f1, .int .u64 x.f1.f0, .int .u32 x.f1.f1] := ⟨[.int .i64 x.f0.f0, .int .i64 x.f0.f1], [.int .u64 x.f1.f0, .int .u32 x.f1.f1], rfl, (k31_mk w x.f0 ), (k53_mk w x.f1 )⟩
theorem k72_mkM (w : World) (base : Nat) (ok : Nat → Prop) (x : S72)  : k72.M w base ok x [.int .i64 x.f0.f0, .int .i64 x.f0.f1, .int .u64 x.f1.f0, .int .u32 x.f1.f1] := ⟨[.int .i64 x.f0.f0, .int .i64 x.f0.f1], [.int .u64 x.f1.f0, .int .u32 x.f1.f1], rfl, (k31_mkM w base ok x.f0 ), (k53_mkM w base ok x.f1 )⟩
def rd_T72 (xs : List S72) (i : Int) : S72 := xs.getD i.toNat z72
theorem at_T72 {w : World} {A : Option Addr} {n : Nat} {xs : List S72} (h : Kd.C k72 w A n xs) (i : Int) (h0 : 0 ≤ i) (h1 : i < n) : ∃ ad , A = some ad ∧ w.cell? (ad.add (i.toNat * 4)) = some (.int .i64 (rd_T72 xs i).f0.f0) ∧ w.cell? ⟨(ad.add (i.toNat * 4)).block, (ad.add (i.toNat * 4)).off + 1, none⟩ = some (.int .i64 (rd_T72 xs i).f0.f1) ∧ w.cell? ⟨(ad.add (i.toNat * 4)).block, (ad.add (i.toNat * 4)).off + 2, none⟩ = some (.int .u64 (rd_T72 xs i).f1.f0) ∧ w.cell? ⟨(ad.add (i.toNat * 4)).block, (ad.add (i.toNat * 4)).off + 3, none⟩ = some (.int .u32 (rd_T72 xs i).f1.f1) := by
  obtain ⟨ad, c, e, _, hK, hc0⟩ := Kd.C_get h z72 i h0 h1
  have hc : ∀ j u, c[j]? = some u → w.cell? (ad.add (i.toNat * 4 + j)) = some u := hc0
  obtain rfl := k72_open hK
  exact ⟨ad, e, hc 0 _ rfl, by rw [← add_field _ _ 1 (by omega)]; exact hc 1 _ rfl, by rw [← add_field _ _ 2 (by omega)]; exact hc 2 _ rfl, by rw [← add_field _ _ 3 (by omega)]; exact hc 3 _ rfl⟩

/-! #### struct type 57 -/
structure S57 where
  f0 : Int
  f1 : S53
  f2 : (List S97)
def z57 : S57 := ⟨(0 : Int), z53, ([] : List S97)⟩
def k57 : Kd S57 := Kd.iso (Kd.pair (Kd.int .i64) (Kd.pair k53 (Kd.slice 97 k97))) (fun x : S57 => (x.f0, x.f1, x.f2))
theorem k57_open {w : World} {x : S57} {cs : List Value} (h : k57.K w x cs) : ∃ A3 c3, cs = [.int .i64 x.f0, .int .u64 x.f1.f0, .int .u32 x.f1.f1, .slice A3 x.f2.length c3] ∧ x.f2.length ≤ c3 ∧ k97.C w A3 x.f2.length x.f2 := by
  obtain ⟨_, _, rfl, rfl, ⟨_, _, rfl, s1, ⟨A3, c3, rfl, l3, g3⟩⟩⟩ := h
  obtain rfl := k53_open s1
  exact ⟨A3, c3, rfl, l3, g3⟩
theorem k57_openM {w : World} {base : Nat} {ok : Nat → Prop} {x : S57} {cs : List Value} (h : k57.M w base ok x cs) : ∃ v3, cs = [.int .i64 x.f0, .int .u64 x.f1.f0, .int .u32 x.f1.f1, v3] ∧ k97.R 97 w base ok v3 x.f2 := by
  obtain ⟨_, _, rfl, rfl, ⟨_, _, rfl, s1, ⟨v3, rfl, g3⟩⟩⟩ := h
  obtain rfl := k53_openM s1
  exact ⟨v3, rfl, g3⟩
theorem k57_mk (w : World) (x : S57) {A3 : Option Addr} {c3 : Nat} (l3 : x.f2.length ≤ c3) (g3 : k97.C w A3 x.f2.length x.f2) : k57.K w x [.int .i64 x.f0, .int .u64 x.f1.f0, .int .u32 x.f1.f1, .slice A3 x.f2.length c3] := ⟨[.int .i64 x.f0], [.int .u64 x.f1.f0, .int .u32 x.f1.f1, .slice A3 x.f2.length c3], rfl, rfl, ⟨[.int .u64 x.f1.f0, .int .u32 x.f1.f1], [.slice A3 x.f2.length c3], rfl, (k53_mk w x.f1 ), ⟨A3, c3, rfl, l3, g3⟩⟩⟩
theorem k57_mkM (w : World) (base : Nat) (ok : Nat → Prop) (x : S57) {v3 : Value} (g3 : k97.R 97 w base ok v3 x.f2) : k57.M w base ok x [.int .i64 x.f0, .int .u64 x.f1.f0, .int .u32 x.f1.f1, v3] := ⟨[.int .i64 x.f0], [.int .u64 x.f1.f0, .int .u32 x.f1.f1, v3], rfl, rfl, ⟨[.int .u64 x.f1.f0, .int .u32 x.f1.f1], [v3], rfl, (k53_mkM w base ok x.f1 ), ⟨v3, rfl, g3⟩⟩⟩
def rd_T57 (xs : List S57) (i : Int) : S57 := xs.getD i.toNat z57
theorem at_T57 {w : World} {A : Option Addr} {n : Nat} {xs : List S57} (h : Kd.C k57 w A n xs) (i : Int) (h0 : 0 ≤ i) (h1 : i < n) : ∃ ad A3 c3, A = some ad ∧ w.cell? (ad.add (i.toNat * 4)) = some (.int .i64 (rd_T57 xs i).f0) ∧ w.cell? ⟨(ad.add (i.toNat * 4)).block, (ad.add (i.toNat * 4)).off + 1, none⟩ = some (.int .u64 (rd_T57 xs i).f1.f0) ∧ w.cell? ⟨(ad.add (i.toNat * 4)).block, (ad.add (i.toNat * 4)).off + 2, none⟩ = some (.int .u32 (rd_T57 xs i).f1.f1) ∧ w.cell? ⟨(ad.add (i.toNat * 4)).block, (ad.add (i.toNat * 4)).off + 3, none⟩ = some (.slice A3 (rd_T57 xs i).f2.length c3) ∧ (rd_T57 xs i).f2.length ≤ c3 ∧ k97.C w A3 (rd_T57 xs i).f2.length (rd_T57 xs i).f2 := by
  obtain ⟨ad, c, e, _, hK, hc0⟩ := Kd.C_get h z57 i h0 h1
  have hc : ∀ j u, c[j]? = some u → w.cell? (ad.add (i.toNat * 4 + j)) = some u := hc0
  obtain ⟨A3, c3, rfl, l3, g3⟩ := k57_open hK
  exact ⟨ad, A3, c3, e, hc 0 _ rfl, by rw [← add_field _ _ 1 (by omega)]; exact hc 1 _ rfl, by rw [← add_field _ _ 2 (by omega)]; exact hc 2 _ rfl, by rw [← add_field _ _ 3 (by omega)]; exact hc 3 _ rfl, l3, g3⟩

end Go.Proofs.Ytnaaaldeadjohaa.Cat

set_option linter.unusedVariables false
set_option linter.unusedSimpArgs false
namespace Go.Proofs.Ytnaaaldeadjohaa.Cat
open Go.RowKit Go.Shelf Go.Proofs Go.Proofs.YtnaaaldeadjohaaW.PrintWords Go.Proofs.Ytnaaaldeadjohaa.PCatalogLies
/-! ### Values: what makes one, which are right -/
@[reducible] def vV (v : S97) : Value := .agg #[.int .i64 v.f0, .bool v.f1, .int .i64 v.f2, .string v.f3]
theorem eqA97 (d : Nat) (w : World) (x0 y0 : Int) (x1 y1 : Bool) (x2 y2 : Int) (x3 y3 : ByteArray) :
    (Op.equalIn (d + 2) 97 (.agg #[.int .i64 x0, .bool x1, .int .i64 x2, .string x3]) (.agg #[.int .i64 y0, .bool y1, .int .i64 y2, .string y3])).run Try.prog w = .ok (x0 == y0 && (x1 == y1 && (x2 == y2 && (x3.toList == y3.toList)))) w := by
  refine eqA_of Try.underlying97 (by kernel_rfl) ?_
  refine eqf_cons (by rfl) (by go_simp; rfl) (by go_simp; rfl) (by go_simp) ?_
  refine eqf_cons (by rfl) (by go_simp; rfl) (by go_simp; rfl) (by go_simp) ?_
  refine eqf_cons (by rfl) (by go_simp; rfl) (by go_simp; rfl) (by go_simp) ?_
  exact eqf_last (by rfl) (by go_simp; rfl) (by go_simp; rfl) (by go_simp)
attribute [local go_sem high] eqA97
theorem null_calls (w : World) : Calls Try.prog 48 #[] w fun e w' => e = .returned (.agg #[.int .i64 0, .bool false, .int .i64 0, .string ⟨#[]⟩]) ∧ Below w.heap.size w w' := by
  go_enter Try.func48, Try.ntmps48
  go_wp2
  refine bodyPost_ret (results_cell_row rfl _ _ w.heap.size 97 #[.int .i64 0, .bool false, .int .i64 0, .string ⟨#[]⟩] (0, 0) _ rfl ?blk Try.underlying97 rfl (by kernel_rfl)) rfl ⟨rfl, ?below⟩
  case blk => exact blk_new _ _
  case below => exact (Below.refl w.heap.size w).alloc (Nat.le_refl _) _
theorem bool_calls (b : Bool) (w : World) : Calls Try.prog 75 #[.bool b] w fun e w' => e = .returned (.agg #[.int .i64 1, .bool b, .int .i64 0, .string ⟨#[]⟩]) ∧ Below w.heap.size w w' := by
  go_enter Try.func75, Try.ntmps75
  go_wp2
  refine bodyPost_ret (results_cell_row rfl _ _ w.heap.size 97 #[.int .i64 1, .bool b, .int .i64 0, .string ⟨#[]⟩] (0, 0) _ rfl ?blk Try.underlying97 rfl (by kernel_rfl)) rfl ⟨rfl, ?below⟩
  case blk => exact blk_new _ _
  case below => exact (Below.refl w.heap.size w).alloc (Nat.le_refl _) _
theorem int_calls (n : Int) (w : World) : Calls Try.prog 76 #[.int .i64 n] w fun e w' => e = .returned (.agg #[.int .i64 2, .bool false, .int .i64 n, .string ⟨#[]⟩]) ∧ Below w.heap.size w w' := by
  go_enter Try.func76, Try.ntmps76
  go_wp2
  refine bodyPost_ret (results_cell_row rfl _ _ w.heap.size 97 #[.int .i64 2, .bool false, .int .i64 n, .string ⟨#[]⟩] (0, 0) _ rfl ?blk Try.underlying97 rfl (by kernel_rfl)) rfl ⟨rfl, ?below⟩
  case blk => exact blk_new _ _
  case below => exact (Below.refl w.heap.size w).alloc (Nat.le_refl _) _
theorem text_calls (t : ByteArray) (w : World) : Calls Try.prog 77 #[.string t] w fun e w' => e = .returned (.agg #[.int .i64 3, .bool false, .int .i64 0, .string t]) ∧ Below w.heap.size w w' := by
  go_enter Try.func77, Try.ntmps77
  go_wp2
  refine bodyPost_ret (results_cell_row rfl _ _ w.heap.size 97 #[.int .i64 3, .bool false, .int .i64 0, .string t] (0, 0) _ rfl ?blk Try.underlying97 rfl (by kernel_rfl)) rfl ⟨rfl, ?below⟩
  case blk => exact blk_new _ _
  case below => exact (Below.refl w.heap.size w).alloc (Nat.le_refl _) _
end Go.Proofs.Ytnaaaldeadjohaa.Cat

set_option linter.unusedVariables false
set_option linter.unusedSimpArgs false
namespace Go.Proofs.Ytnaaaldeadjohaa.Cat
open Go.RowKit Go.Shelf Go.Proofs Go.Proofs.YtnaaaldeadjohaaW.PrintWords Go.Proofs.Ytnaaaldeadjohaa.PCatalogLies
attribute [local go_sem high] eqA97
/-! ### value.Right -/
def eqV (a b : S97) : Bool := a.f0 == b.f0 && (a.f1 == b.f1 && (a.f2 == b.f2 && (a.f3.toList == b.f3.toList)))
def rightB (v : S97) : Bool :=
  if v.f0 = 0 then eqV v ⟨0, false, 0, ⟨#[]⟩⟩
  else if v.f0 = 1 then eqV v ⟨1, v.f1, 0, ⟨#[]⟩⟩
  else if v.f0 = 2 then eqV v ⟨2, false, v.f2, ⟨#[]⟩⟩
  else if v.f0 = 3 then eqV v ⟨3, false, 0, v.f3⟩ && decide (v.f3.size ≤ 64)
  else false
/-- The four cells of a box that holds a value. -/
theorem valBox (w : World) (x0 : Int) (x1 : Bool) (x2 : Int) (x3 : ByteArray) (w' : World) (hb : Below (w.heap.size + 1) (w.alloc (.cells #[.int .i64 x0, .bool x1, .int .i64 x2, .string x3] 97)) w') :
    w'.cell? ⟨w.heap.size, 0, none⟩ = some (.int .i64 x0) ∧ w'.cell? ⟨w.heap.size, 1, none⟩ = some (.bool x1) ∧ w'.cell? ⟨w.heap.size, 2, none⟩ = some (.int .i64 x2) ∧ w'.cell? ⟨w.heap.size, 3, none⟩ = some (.string x3) := by
  have hb' : Below (w.alloc (.cells #[.int .i64 x0, .bool x1, .int .i64 x2, .string x3] 97)).heap.size (w.alloc (.cells #[.int .i64 x0, .bool x1, .int .i64 x2, .string x3] 97)) w' := by simpa using hb
  exact ⟨pw_cell_below hb' (by simp [go_sem]), pw_cell_below hb' (by simp [go_sem]), pw_cell_below hb' (by simp [go_sem]), pw_cell_below hb' (by simp [go_sem])⟩
set_option maxHeartbeats 4000000 in
set_option maxRecDepth 100000 in
theorem right_calls (v : S97) (w : World) : Calls Try.prog 71 #[vV v] w fun e w' => e = .returned (.bool (rightB v)) ∧ Below w.heap.size w w' := by
  obtain ⟨x0, x1, x2, x3⟩ := v
  have HA := Lib.hid ((Below.refl w.heap.size w).alloc (Nat.le_refl _) (.cells #[.int .i64 x0, .bool x1, .int .i64 x2, .string x3] 97))
  have HX := Lib.hid (valBox w x0 x1 x2 x3)
  have q0 : (w.alloc (.cells #[.int .i64 x0, .bool x1, .int .i64 x2, .string x3] 97)).cell? ⟨w.heap.size, 0, none⟩ = some (.int .i64 x0) := by simp [go_sem]
  have hz : (w.alloc (.cells #[.int .i64 x0, .bool x1, .int .i64 x2, .string x3] 97)).heap.size = w.heap.size + 1 := by simp
  go_enter Try.func71, Try.ntmps71
  by_cases h0 : x0 = 0
  · subst h0
    go_wp2
    generalize w.alloc (.cells #[.int .i64 0, .bool x1, .int .i64 x2, .string x3] 97) = W0 at *
    have HBD := Lib.hid (show Below W0.heap.size W0 W0 from Below.refl _ W0)
    have HBN := Lib.hid (show Below W0.heap.size W0 W0.drew from (Below.refl _ W0).drew)
    rw [hz] at HBN HBD
    go_region_held3 (fun w' => w'.cell? ⟨w.heap.size, 0, none⟩ = some (.int .i64 0) ∧ w'.cell? ⟨w.heap.size, 1, none⟩ = some (.bool x1) ∧ w'.cell? ⟨w.heap.size, 2, none⟩ = some (.int .i64 x2) ∧ w'.cell? ⟨w.heap.size, 3, none⟩ = some (.string x3))
      (first | exact HX.out _ HBN.out | exact HX.out _ HBD.out)
      ((go_at_call 48; refine (null_calls _).mono ?_; rintro e w1 ⟨rfl, hb⟩; have HBN2 := Lib.hid (HBN.out.trans (hb.mono (Nat.le_trans (by omega) HBN.out.size))); clear HBN; have HBN := HBN2; clear HBN2 hb))
    all_goals
      go_wp2
      go_ret
      refine ⟨?_, HA.out.trans (HBN.out.mono (by omega))⟩
      simp [rightB, eqV]
  by_cases h1 : x0 = 1
  · subst h1
    go_wp2
    generalize w.alloc (.cells #[.int .i64 1, .bool x1, .int .i64 x2, .string x3] 97) = W0 at *
    have HBD := Lib.hid (show Below W0.heap.size W0 W0 from Below.refl _ W0)
    have HBN := Lib.hid (show Below W0.heap.size W0 W0.drew from (Below.refl _ W0).drew)
    rw [hz] at HBN HBD
    go_region_held3 (fun w' => w'.cell? ⟨w.heap.size, 0, none⟩ = some (.int .i64 1) ∧ w'.cell? ⟨w.heap.size, 1, none⟩ = some (.bool x1) ∧ w'.cell? ⟨w.heap.size, 2, none⟩ = some (.int .i64 x2) ∧ w'.cell? ⟨w.heap.size, 3, none⟩ = some (.string x3))
      (first | exact HX.out _ HBN.out | exact HX.out _ HBD.out)
      ((go_at_call 75; refine (bool_calls x1 _).mono ?_; rintro e w1 ⟨rfl, hb⟩; have HBN2 := Lib.hid (HBN.out.trans (hb.mono (Nat.le_trans (by omega) HBN.out.size))); clear HBN; have HBN := HBN2; clear HBN2 hb))
    all_goals
      go_wp2
      go_ret
      refine ⟨?_, HA.out.trans (HBN.out.mono (by omega))⟩
      simp [rightB, eqV]
  by_cases h2 : x0 = 2
  · subst h2
    go_wp2
    generalize w.alloc (.cells #[.int .i64 2, .bool x1, .int .i64 x2, .string x3] 97) = W0 at *
    have HBD := Lib.hid (show Below W0.heap.size W0 W0 from Below.refl _ W0)
    have HBN := Lib.hid (show Below W0.heap.size W0 W0.drew from (Below.refl _ W0).drew)
    rw [hz] at HBN HBD
    go_region_held3 (fun w' => w'.cell? ⟨w.heap.size, 0, none⟩ = some (.int .i64 2) ∧ w'.cell? ⟨w.heap.size, 1, none⟩ = some (.bool x1) ∧ w'.cell? ⟨w.heap.size, 2, none⟩ = some (.int .i64 x2) ∧ w'.cell? ⟨w.heap.size, 3, none⟩ = some (.string x3))
      (first | exact HX.out _ HBN.out | exact HX.out _ HBD.out)
      ((go_at_call 76; refine (int_calls x2 _).mono ?_; rintro e w1 ⟨rfl, hb⟩; have HBN2 := Lib.hid (HBN.out.trans (hb.mono (Nat.le_trans (by omega) HBN.out.size))); clear HBN; have HBN := HBN2; clear HBN2 hb))
    all_goals
      go_wp2
      go_ret
      refine ⟨?_, HA.out.trans (HBN.out.mono (by omega))⟩
      simp [rightB, eqV]
  by_cases h3 : x0 = 3
  · subst h3
    have hsz : ((x3.size : Int) ≤ 64) = (x3.size ≤ 64) := propext (by omega)
    by_cases hg : (eqV ⟨3, x1, x2, x3⟩ ⟨3, false, 0, x3⟩) = true
    · have he : x1 = false ∧ x2 = 0 := by simpa [eqV] using hg
      obtain ⟨rfl, rfl⟩ := he
      clear hg
      go_wp2
      generalize w.alloc (.cells #[.int .i64 3, .bool false, .int .i64 0, .string x3] 97) = W0 at *
      have HBD := Lib.hid (show Below W0.heap.size W0 W0 from Below.refl _ W0)
      have HBN := Lib.hid (show Below W0.heap.size W0 W0.drew from (Below.refl _ W0).drew)
      rw [hz] at HBN HBD
      go_region_held3 (fun w' => w'.cell? ⟨w.heap.size, 0, none⟩ = some (.int .i64 3) ∧ w'.cell? ⟨w.heap.size, 1, none⟩ = some (.bool false) ∧ w'.cell? ⟨w.heap.size, 2, none⟩ = some (.int .i64 0) ∧ w'.cell? ⟨w.heap.size, 3, none⟩ = some (.string x3))
        (first | exact HX.out _ HBN.out | exact HX.out _ HBD.out)
        ((go_at_call 77; refine (text_calls x3 _).mono ?_; rintro e w1 ⟨rfl, hb⟩; have HBN2 := Lib.hid (HBN.out.trans (hb.mono (Nat.le_trans (by omega) HBN.out.size))); clear HBN; have HBN := HBN2; clear HBN2 hb))
      all_goals
        go_wp2
        go_ret
        refine ⟨?_, HA.out.trans (HBN.out.mono (by omega))⟩
        simp [rightB, eqV]
        try omega
    · cases x1
      · have hf : (x2 == 0) = false := by
          cases hq : (x2 == 0)
          · rfl
          · exact absurd (by simpa [eqV] using hq) hg
        have HF := Lib.hid (show rightB ⟨3, false, x2, x3⟩ = false by simp [rightB, hg])
        clear hg
        go_wp2
        generalize w.alloc (.cells #[.int .i64 3, .bool false, .int .i64 x2, .string x3] 97) = W0 at *
        have HBD := Lib.hid (show Below W0.heap.size W0 W0 from Below.refl _ W0)
        have HBN := Lib.hid (show Below W0.heap.size W0 W0.drew from (Below.refl _ W0).drew)
        rw [hz] at HBN HBD
        obtain ⟨y0, y1, y2, y3⟩ := HX.out _ HBD.out
        first
          | (go_region_with ((go_at_call 77; refine (text_calls x3 _).mono ?_; rintro e w1 ⟨rfl, hb⟩; have HBN2 := Lib.hid (HBN.out.trans (hb.mono (Nat.le_trans (by omega) HBN.out.size))); clear HBN; have HBN := HBN2; clear HBN2; replace y0 := pw_cell_below hb y0; replace y1 := pw_cell_below hb y1; replace y2 := pw_cell_below hb y2; replace y3 := pw_cell_below hb y3; clear hb)))
          | fail
        all_goals
          go_wp2
          go_ret
          exact ⟨by rw [HF.out]; rfl, HA.out.trans (HBN.out.mono (by omega))⟩
      · have HF := Lib.hid (show rightB ⟨3, true, x2, x3⟩ = false by simp [rightB, hg])
        clear hg
        go_wp2
        generalize w.alloc (.cells #[.int .i64 3, .bool true, .int .i64 x2, .string x3] 97) = W0 at *
        have HBD := Lib.hid (show Below W0.heap.size W0 W0 from Below.refl _ W0)
        have HBN := Lib.hid (show Below W0.heap.size W0 W0.drew from (Below.refl _ W0).drew)
        rw [hz] at HBN HBD
        obtain ⟨y0, y1, y2, y3⟩ := HX.out _ HBD.out
        first
          | (go_region_with ((go_at_call 77; refine (text_calls x3 _).mono ?_; rintro e w1 ⟨rfl, hb⟩; have HBN2 := Lib.hid (HBN.out.trans (hb.mono (Nat.le_trans (by omega) HBN.out.size))); clear HBN; have HBN := HBN2; clear HBN2; replace y0 := pw_cell_below hb y0; replace y1 := pw_cell_below hb y1; replace y2 := pw_cell_below hb y2; replace y3 := pw_cell_below hb y3; clear hb)))
          | fail
        all_goals
          go_wp2
          go_ret
          exact ⟨by rw [HF.out]; rfl, HA.out.trans (HBN.out.mono (by omega))⟩
  · have b0 : (x0 == 0) = false := beq_eq_false_iff_ne.2 h0
    have b1 : (x0 == 1) = false := beq_eq_false_iff_ne.2 h1
    have b2 : (x0 == 2) = false := beq_eq_false_iff_ne.2 h2
    have b3 : (x0 == 3) = false := beq_eq_false_iff_ne.2 h3
    have HF := Lib.hid (show rightB ⟨x0, x1, x2, x3⟩ = false by simp [rightB, h0, h1, h2, h3])
    clear h0 h1 h2 h3
    go_wp2
    go_ret
    exact ⟨by rw [HF.out]; rfl, HA.out⟩
end Go.Proofs.Ytnaaaldeadjohaa.Cat

set_option linter.unusedVariables false
set_option linter.unusedSimpArgs false
namespace Go.Proofs.Ytnaaaldeadjohaa.Cat
open Go.RowKit Go.Shelf Go.Proofs Go.Proofs.YtnaaaldeadjohaaW.PrintWords Go.Proofs.Ytnaaaldeadjohaa.PCatalogLies
/-! ### rows.eight, rows.one -/
theorem info5 : (Try.prog.info? 5).map (fun i => (i.zero, i.size, i.bytes)) = some (some (.int .u8 0), 1, 1) := by kernel_rfl
/-- The first i bytes of eight are told. -/
def EightRow (w : World) (g i : Nat) (f : Nat → Int) : Prop := ∀ j, j < 8 → (∃ b, w.cell? ⟨g, j, none⟩ = some (.int .u8 b)) ∧ w.frozen? ⟨g, j, none⟩ = false ∧ (j < i → w.cell? ⟨g, j, none⟩ = some (.int .u8 (f j)))
theorem EightRow.set {w : World} {g i : Nat} {f : Nat → Int} (h : EightRow w g i f) (hi : i < 8) : EightRow (w.setCell ⟨g, i, none⟩ (.int .u8 (f i))) g (i + 1) f := fun j hj => by
  obtain ⟨⟨b, hb⟩, hf, hr⟩ := h j hj
  by_cases e : i = j
  · subst e
    have := World.cell?_setCell_same w _ (v := .int .u8 (f i)) hb
    exact ⟨⟨_, this⟩, by rw [World.frozen?_setCell]; exact hf, fun _ => this⟩
  · have hne : (⟨g, i, none⟩ : Addr) ≠ ⟨g, j, none⟩ := fun h => e (by injection h)
    refine ⟨⟨b, by rw [World.cell?_setCell_other _ _ _ _ hne]; exact hb⟩, by rw [World.frozen?_setCell]; exact hf, fun h => ?_⟩
    rw [World.cell?_setCell_other _ _ _ _ hne]
    exact hr (by omega)
theorem EightRow.new (w : World) (f : Nat → Int) : EightRow (w.alloc (.cells #[.int .u8 0, .int .u8 0, .int .u8 0, .int .u8 0, .int .u8 0, .int .u8 0, .int .u8 0, .int .u8 0] 123)) w.heap.size 0 f := fun j hj =>
  ⟨⟨0, by rw [World.cell?_alloc_new]; rcases j with _ | _ | _ | _ | _ | _ | _ | _ | j <;> first | rfl | omega⟩, World.frozen?_alloc_new _ _ _ _, fun h => by omega⟩
def byteAt (n : Int) (j : Nat) : Int := n / (2 : Int) ^ (56 - 8 * j) % 256
def eightL (n : Int) : List Int := (List.range 8).map fun j => byteAt n j
set_option maxHeartbeats 4000000 in
set_option maxRecDepth 100000 in
theorem eight_calls (n : Int) (hn : 0 ≤ n) (v0 : Value) (xs : List Int) (w0 w : World) (ho : w.ownsRow w0.heap.size 5 1 v0 xs.length (nums .u8 xs)) (hb : Below w0.heap.size w0 w) (hl : xs.length ≤ 100) :
    Calls Try.prog 78 #[v0, .int .u64 n] w fun e w' => ∃ v1, e = .returned v1 ∧ w'.ownsRow w0.heap.size 5 1 v1 (xs ++ eightL n).length (nums .u8 (xs ++ eightL n)) ∧ Below w0.heap.size w0 w' := by
  have HO := Lib.hid ho
  have HBA := Lib.hid (hb.alloc hb.size (.cells #[.int .u8 0, .int .u8 0, .int .u8 0, .int .u8 0, .int .u8 0, .int .u8 0, .int .u8 0, .int .u8 0] 123))
  have HOA := Lib.hid (ho.alloc (.cells #[.int .u8 0, .int .u8 0, .int .u8 0, .int .u8 0, .int .u8 0, .int .u8 0, .int .u8 0, .int .u8 0] 123))
  have HR := Lib.hid (EightRow.new w (byteAt n))
  have hzs := hb.size
  have hne := own_ne (ho.alloc (.cells #[.int .u8 0, .int .u8 0, .int .u8 0, .int .u8 0, .int .u8 0, .int .u8 0, .int .u8 0, .int .u8 0] 123)) (heap_alloc_new w _) (by decide)
  clear ho hb
  go_enter Try.func78, Try.ntmps78
  go_wp2
  generalize w.alloc (.cells #[.int .u8 0, .int .u8 0, .int .u8 0, .int .u8 0, .int .u8 0, .int .u8 0, .int .u8 0, .int .u8 0] 123) = W0 at *
  go_loopw [7] (fun v wr => ∃ i : Nat, v = .int .i64 i ∧ i ≤ 8 ∧ Hid (EightRow wr w.heap.size i (byteAt n)) ∧ Hid (wr.ownsRow w0.heap.size 5 1 v0 xs.length (nums .u8 xs)) ∧ Hid (Below w0.heap.size w0 wr)) (fun v _ => 8 - (intOf v).toNat)
  case atStart => exact ⟨0, rfl, Nat.zero_le _, HR, HOA, HBA⟩
  case round =>
    obtain ⟨i, rfl, hi, HRr, HOr, HBr⟩ := hrel
    obtain ⟨wo, rfl⟩ : ∃ wo : World, wo = wr := ⟨_, rfl⟩
    by_cases hlt : i < 8
    · obtain ⟨⟨b, hb⟩, hf, _⟩ := HRr.out i hlt
      go_wp2
      go_roundw
      case rel => exact ⟨i + 1, by go_num, hlt, Lib.hid (HRr.out.set hlt), Lib.hid (own_setCell HOr.out (p := ⟨w.heap.size, i, none⟩) hne _), Lib.hid (HBr.out.setCell (p := ⟨w.heap.size, i, none⟩) hzs _)⟩
      case measure => simp [intOf]; omega
    · obtain rfl : i = 8 := by omega
      have HRd := Lib.hid (show ReadsInt wo .u8 (some ⟨w.heap.size, 0, none⟩) 8 (eightL n) from ⟨by simp [eightL], by omega, fun _ => ⟨_, rfl, fun j hj => by
        rw [add_plain]
        rw [(HRr.out j hj).2.2 hj]
        simp [eightL, List.getD_eq_getElem?_getD, hj]⟩⟩)
      have h8 : (eightL n).length = 8 := by simp [eightL]
      go_wp2_with (at_builtin; refine print_append_row (w0 := w0) w0.heap.size rfl (.tmp 19) (.tmp 20) 115 5 .u8 1 rfl Try.underlying115 info5 (by decide) v0 xs (eightL n) (some ⟨w.heap.size, 0, none⟩) 8 8 rfl rfl HOr.out HRd.out HBr.out HBr.out.size ?hl ?_; (case hl => omega); intro v1 w1 hown hB hg hat; have HOW := Lib.hid hown; have HBW := Lib.hid hB; clear hown hB hg hat)
      go_ret
      exact ⟨_, rfl, HOW.out, HBW.out⟩
def oneL (v : S97) : List Int :=
  if v.f0 = 0 then [0]
  else if v.f0 = 1 then [1, if v.f1 then 1 else 0]
  else if v.f0 = 2 then 2 :: eightL (v.f2 % 18446744073709551616)
  else 3 :: ((v.f3.size : Int) % 256) :: bytesOf v.f3
theorem rightB_kind {v : S97} (h : rightB v = true) : v.f0 = 0 ∨ v.f0 = 1 ∨ v.f0 = 2 ∨ (v.f0 = 3 ∧ v.f3.size ≤ 64) := by
  unfold rightB at h
  by_cases h0 : v.f0 = 0
  · exact .inl h0
  by_cases h1 : v.f0 = 1
  · exact .inr (.inl h1)
  by_cases h2 : v.f0 = 2
  · exact .inr (.inr (.inl h2))
  by_cases h3 : v.f0 = 3
  · rw [if_neg h0, if_neg h1, if_neg h2, if_pos h3, Bool.and_eq_true] at h
    exact .inr (.inr (.inr ⟨h3, of_decide_eq_true h.2⟩))
  · rw [if_neg h0, if_neg h1, if_neg h2, if_neg h3] at h; cases h
set_option maxHeartbeats 8000000 in
set_option maxRecDepth 100000 in
theorem one_calls (v : S97) (hr : rightB v = true) (v0 : Value) (w0 w : World) (ho : w.ownsRow w0.heap.size 5 1 v0 0 (nums .u8 [])) (hb : Below w0.heap.size w0 w) :
    Calls Try.prog 72 #[v0, vV v] w fun e w' => ∃ v1, e = .returned v1 ∧ w'.ownsRow w0.heap.size 5 1 v1 (oneL v).length (nums .u8 (oneL v)) ∧ Below w0.heap.size w0 w' := by
  have hk := rightB_kind hr
  obtain ⟨x0, x1, x2, x3⟩ := v
  simp only at hk
  have HB := Lib.hid (hb.alloc hb.size (.cells #[.int .i64 x0, .bool x1, .int .i64 x2, .string x3] 97))
  have HON := Lib.hid (ho.alloc (.cells #[.int .i64 x0, .bool x1, .int .i64 x2, .string x3] 97))
  have hblk : (w.alloc (.cells #[.int .i64 x0, .bool x1, .int .i64 x2, .string x3] 97)).heap[w.heap.size]? = some (.cells #[.int .i64 x0, .bool x1, .int .i64 x2, .string x3] 97 (0, 0)) := heap_alloc_new w _
  have q0 := (blk_cell hblk 0).trans rfl
  have q1 := (blk_cell hblk 1).trans rfl
  have q2 := (blk_cell hblk 2).trans rfl
  have q3 := (blk_cell hblk 3).trans rfl
  have HBK := Lib.hid hblk
  clear hblk hr ho hb
  go_enter Try.func72, Try.ntmps72
  rcases hk with rfl | rfl | rfl | ⟨rfl, h64⟩
  · go_wp2_with (at_builtin; refine print_append_num (w0 := w0) w0.heap.size rfl (.tmp 5) (.tmp 9) 115 5 .u8 1 rfl Try.underlying115 info5 (by decide) v0 [] 0 rfl (by rw [World.size_alloc]; rfl) HON.out HB.out HB.out.size (by decide) ?_; intro v1 w1 hown hB hg hat; have HO1 := Lib.hid hown; have HB1 := Lib.hid hB; have hblk1 := blk_grown HBK.out hg (own_ne HON.out HBK.out (by decide)); have HBK1 := Lib.hid hblk1; have r0 := (blk_cell hblk1 0).trans rfl; have r1 := (blk_cell hblk1 1).trans rfl; have r2 := (blk_cell hblk1 2).trans rfl; have r3 := (blk_cell hblk1 3).trans rfl; clear hown hB hg hat hblk1)
    go_ret
    exact ⟨_, rfl, HO1.out, HB1.out⟩
  · cases x1
    · go_wp2_with (first
        | (at_builtin; refine print_append_num (w0 := w0) w0.heap.size rfl (.tmp 5) (.tmp 9) 115 5 .u8 1 rfl Try.underlying115 info5 (by decide) v0 [] 1 rfl (by rw [World.size_alloc]; rfl) HON.out HB.out HB.out.size (by decide) ?_; intro v1 w1 hown hB hg hat; have HO1 := Lib.hid hown; have HB1 := Lib.hid hB; have hblk1 := blk_grown HBK.out hg (own_ne HON.out HBK.out (by decide)); have HBK1 := Lib.hid hblk1; have r0 := (blk_cell hblk1 0).trans rfl; have r1 := (blk_cell hblk1 1).trans rfl; have r2 := (blk_cell hblk1 2).trans rfl; have r3 := (blk_cell hblk1 3).trans rfl; clear hown hB hg hat hblk1)
        | (at_builtin; refine print_append_num (w0 := w0) w0.heap.size rfl (.tmp 20) (.tmp 21) 115 5 .u8 1 rfl Try.underlying115 info5 (by decide) v1 _ 0 rfl rfl HO1.out HB1.out HB1.out.size (by decide) ?_; intro v2 w2 hown hB hg hat; have HO2 := Lib.hid hown; have HB2 := Lib.hid hB; have hblk2 := blk_grown HBK1.out hg (own_ne HO1.out HBK1.out (by decide)); have s3 := (blk_cell hblk2 3).trans rfl; clear hown hB hg hat hblk2))
      go_ret
      exact ⟨_, rfl, HO2.out, HB2.out⟩
    · go_wp2_with (first
        | (at_builtin; refine print_append_num (w0 := w0) w0.heap.size rfl (.tmp 5) (.tmp 9) 115 5 .u8 1 rfl Try.underlying115 info5 (by decide) v0 [] 1 rfl (by rw [World.size_alloc]; rfl) HON.out HB.out HB.out.size (by decide) ?_; intro v1 w1 hown hB hg hat; have HO1 := Lib.hid hown; have HB1 := Lib.hid hB; have hblk1 := blk_grown HBK.out hg (own_ne HON.out HBK.out (by decide)); have HBK1 := Lib.hid hblk1; have r0 := (blk_cell hblk1 0).trans rfl; have r1 := (blk_cell hblk1 1).trans rfl; have r2 := (blk_cell hblk1 2).trans rfl; have r3 := (blk_cell hblk1 3).trans rfl; clear hown hB hg hat hblk1)
        | (at_builtin; refine print_append_num (w0 := w0) w0.heap.size rfl (.tmp 17) (.tmp 18) 115 5 .u8 1 rfl Try.underlying115 info5 (by decide) v1 _ 1 rfl rfl HO1.out HB1.out HB1.out.size (by decide) ?_; intro v2 w2 hown hB hg hat; have HO2 := Lib.hid hown; have HB2 := Lib.hid hB; have hblk2 := blk_grown HBK1.out hg (own_ne HO1.out HBK1.out (by decide)); have s3 := (blk_cell hblk2 3).trans rfl; clear hown hB hg hat hblk2))
      go_ret
      exact ⟨_, rfl, HO2.out, HB2.out⟩
  · go_wp2_with (first
      | (at_builtin; refine print_append_num (w0 := w0) w0.heap.size rfl (.tmp 5) (.tmp 9) 115 5 .u8 1 rfl Try.underlying115 info5 (by decide) v0 [] 2 rfl (by rw [World.size_alloc]; rfl) HON.out HB.out HB.out.size (by decide) ?_; intro v1 w1 hown hB hg hat; have HO1 := Lib.hid hown; have HB1 := Lib.hid hB; have hblk1 := blk_grown HBK.out hg (own_ne HON.out HBK.out (by decide)); have HBK1 := Lib.hid hblk1; have r0 := (blk_cell hblk1 0).trans rfl; have r1 := (blk_cell hblk1 1).trans rfl; have r2 := (blk_cell hblk1 2).trans rfl; have r3 := (blk_cell hblk1 3).trans rfl; clear hown hB hg hat hblk1)
      | (go_at_call 78; refine (eight_calls (x2 % 18446744073709551616) (Int.emod_nonneg _ (by decide)) v1 _ w0 _ HO1.out HB1.out (by decide)).mono ?_; rintro e w2 ⟨v2, rfl, hown, hB⟩; have HO2 := Lib.hid hown; have HB2 := Lib.hid hB; clear hown hB))
    go_ret
    exact ⟨_, rfl, HO2.out, HB2.out⟩
  · have H64 := Lib.hid h64
    clear h64
    go_wp2_with (first
      | (at_builtin; refine print_append_num (w0 := w0) w0.heap.size rfl (.tmp 5) (.tmp 9) 115 5 .u8 1 rfl Try.underlying115 info5 (by decide) v0 [] 3 rfl (by rw [World.size_alloc]; rfl) HON.out HB.out HB.out.size (by decide) ?_; intro v1 w1 hown hB hg hat; have HO1 := Lib.hid hown; have HB1 := Lib.hid hB; have hblk1 := blk_grown HBK.out hg (own_ne HON.out HBK.out (by decide)); have HBK1 := Lib.hid hblk1; have r0 := (blk_cell hblk1 0).trans rfl; have r1 := (blk_cell hblk1 1).trans rfl; have r2 := (blk_cell hblk1 2).trans rfl; have r3 := (blk_cell hblk1 3).trans rfl; clear hown hB hg hat hblk1)
      | (at_builtin; refine print_append_num (w0 := w0) w0.heap.size rfl (.tmp 32) (.tmp 37) 115 5 .u8 1 rfl Try.underlying115 info5 (by decide) v1 _ _ rfl rfl HO1.out HB1.out HB1.out.size (by decide) ?_; intro v2 w2 hown hB hg hat; have HO2 := Lib.hid hown; have HB2 := Lib.hid hB; have hblk2 := blk_grown HBK1.out hg (own_ne HO1.out HBK1.out (by decide)); have s3 := (blk_cell hblk2 3).trans rfl; clear hown hB hg hat hblk2)
      | (at_builtin; refine print_append_str (w0 := w0) w0.heap.size rfl (.tmp 39) (.tmp 41) 115 9 5 rfl Try.underlying115 Try.underlying9 info5 v2 _ x3 rfl rfl HO2.out HB2.out HB2.out.size ?hl ?_; (case hl => (simp only [List.length_append, List.length_cons, List.length_nil]; have := H64.out; omega)); intro v3 w3 hown hB hg; have HO3 := Lib.hid hown; have HB3 := Lib.hid hB; clear hown hB hg))
    go_ret
    exact ⟨_, rfl, (show oneL ⟨3, x1, x2, x3⟩ = [] ++ [3] ++ [(x3.size : Int) % 256] ++ bytesOf x3 from rfl) ▸ HO3.out, HB3.out⟩
end Go.Proofs.Ytnaaaldeadjohaa.Cat
