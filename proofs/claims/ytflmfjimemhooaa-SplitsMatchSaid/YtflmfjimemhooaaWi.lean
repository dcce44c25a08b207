/- Own lists of structs; the contract of frame.Tiles. Conditions: none. -/
import Derived.Test.YtflmfjimemhooaaWh
import Derived.Test.YtflmfjimemhooaaFe
namespace Go.Proofs.Ytflmfjimemhooaa
set_option linter.unusedVariables false
set_option linter.unusedSimpArgs false
open Go.RowKit
open Fl
open BigFrame

theorem common_yes (x y W H X Y s : Int) (w : World) (x0 : -1048576 ≤ x) (x1 : x ≤ 1048576) (y0 : -1048576 ≤ y) (y1 : y ≤ 1048576) (w0 : 1 ≤ W) (w1 : W ≤ 256) (h0 : 1 ≤ H) (h1 : H ≤ 256) (X0 : -2097152 ≤ X) (X1 : X ≤ 2097152) (Y0 : -2097152 ≤ Y) (Y1 : Y ≤ 2097152) (s0 : 1 ≤ s) (s1 : s ≤ 256) (hb : cmB x y W H X Y s = true) :
    Calls Try.prog 46 #[.agg #[.int .i64 x, .int .i64 y, .int .i64 W, .int .i64 H], .agg #[.int .i64 X, .int .i64 Y, .int .i64 s, .int .i64 s]] w fun e w' => e = .returned (.tuple #[.agg #[.int .i64 (cmV x y W H X Y s 0), .int .i64 (cmV x y W H X Y s 1), .int .i64 (cmV x y W H X Y s 2), .int .i64 (cmV x y W H X Y s 3)], .bool true]) ∧ Kept None' w w' :=
  (common_any x y W H X Y s w x0 x1 y0 y1 w0 w1 h0 h1 X0 X1 Y0 Y1 s0 s1).mono fun e w' h => by unfold CmP at h; rw [hb] at h; exact h
theorem common_no (x y W H X Y s : Int) (w : World) (x0 : -1048576 ≤ x) (x1 : x ≤ 1048576) (y0 : -1048576 ≤ y) (y1 : y ≤ 1048576) (w0 : 1 ≤ W) (w1 : W ≤ 256) (h0 : 1 ≤ H) (h1 : H ≤ 256) (X0 : -2097152 ≤ X) (X1 : X ≤ 2097152) (Y0 : -2097152 ≤ Y) (Y1 : Y ≤ 2097152) (s0 : 1 ≤ s) (s1 : s ≤ 256) (hb : cmB x y W H X Y s = false) :
    Calls Try.prog 46 #[.agg #[.int .i64 x, .int .i64 y, .int .i64 W, .int .i64 H], .agg #[.int .i64 X, .int .i64 Y, .int .i64 s, .int .i64 s]] w fun e w' => e = .returned (.tuple #[.agg #[.int .i64 0, .int .i64 0, .int .i64 0, .int .i64 0], .bool false]) ∧ Kept None' w w' :=
  (common_any x y W H X Y s w x0 x1 y0 y1 w0 w1 h0 h1 X0 X1 Y0 Y1 s0 s1).mono fun e w' h => by unfold CmP at h; rw [hb] at h; exact h

/-- Structs of integers, cell by cell: an element is a function of the cell's number. -/
def row4 (e : Nat → Int) : List Value := [.int .i64 (e 0), .int .i64 (e 1), .int .i64 (e 2), .int .i64 (e 3)]
def row5 (e : Nat → Int) : List Value := [.int .i64 (e 0), .int .i64 (e 1), .int .i64 (e 2), .int .i64 (e 3), .int .i64 (e 4)]
def flat4 (T : List (Nat → Int)) : List Value := T.flatMap row4
def flat5 (T : List (Nat → Int)) : List Value := T.flatMap row5
theorem flat4_snoc (T : List (Nat → Int)) (e : Nat → Int) : flat4 (T ++ [e]) = flat4 T ++ row4 e := by unfold flat4; simp
theorem flat5_snoc (T : List (Nat → Int)) (e : Nat → Int) : flat5 (T ++ [e]) = flat5 T ++ row5 e := by unfold flat5; simp
theorem flat4_at : ∀ (T : List (Nat → Int)) (i : Nat) (e : Nat → Int) (c : Nat), T[i]? = some e → c < 4 → (flat4 T)[i * 4 + c]? = some (.int .i64 (e c))
  | [], i, e, c, h, _ => by simp at h
  | a :: T, 0, e, c, h, hc => by
    simp at h
    subst h
    obtain rfl | rfl | rfl | rfl : c = 0 ∨ c = 1 ∨ c = 2 ∨ c = 3 := by omega
    all_goals rfl
  | a :: T, i + 1, e, c, h, hc => by
    have h' : T[i]? = some e := by simpa using h
    have := flat4_at T i e c h' hc
    have e1 : flat4 (a :: T) = row4 a ++ flat4 T := rfl
    rw [e1, List.getElem?_append_right (by show 4 ≤ _; omega)]
    rw [show (i + 1) * 4 + c - (row4 a).length = i * 4 + c by show (i + 1) * 4 + c - 4 = _; omega]
    exact this
theorem flat5_at : ∀ (T : List (Nat → Int)) (i : Nat) (e : Nat → Int) (c : Nat), T[i]? = some e → c < 5 → (flat5 T)[i * 5 + c]? = some (.int .i64 (e c))
  | [], i, e, c, h, _ => by simp at h
  | a :: T, 0, e, c, h, hc => by
    simp at h
    subst h
    obtain rfl | rfl | rfl | rfl | rfl : c = 0 ∨ c = 1 ∨ c = 2 ∨ c = 3 ∨ c = 4 := by omega
    all_goals rfl
  | a :: T, i + 1, e, c, h, hc => by
    have h' : T[i]? = some e := by simpa using h
    have := flat5_at T i e c h' hc
    have e1 : flat5 (a :: T) = row5 a ++ flat5 T := rfl
    rw [e1, List.getElem?_append_right (by show 5 ≤ _; omega)]
    rw [show (i + 1) * 5 + c - (row5 a).length = i * 5 + c by show (i + 1) * 5 + c - 5 = _; omega]
    exact this
/-- A slice of structs of the call's own that is being made. -/
def LT (w0 : World) (t : TypeId) (s : Nat) (v : Value) (n : Nat) (xs : List Value) (wr : World) : Prop := Kept None' w0 wr ∧ wr.ownsRow w0.heap.size t s v n xs
theorem LT.nil (w0 : World) (t : TypeId) (s : Nat) {wr : World} (k : Kept None' w0 wr) : LT w0 t s (.slice none 0 0) 0 [] wr := ⟨k, World.ownsRow_nil _ _ _ _⟩
theorem LT.step {w0 : World} {t : TypeId} {s : Nat} {v : Value} {n : Nat} {xs : List Value} {wr wr' : World} (h : LT w0 t s v n xs wr) (k : Kept None' wr wr') : LT w0 t s v n xs wr' := ⟨h.1.trans k, own_kept h.2 k⟩
theorem LT.app {w0 : World} {t : TypeId} {s : Nat} {v v' : Value} {n : Nat} {xs us : List Value} {wr wa wb : World} (h : LT w0 t s v n xs wr) (hk : Kept None' wr wa) (hk2 : Kept (fun k => v.ownBlock = some k) wa wb) (hown : wb.ownsRow w0.heap.size t s v' (n + 1) (xs ++ us)) : LT w0 t s v' (n + 1) (xs ++ us) wb := by
  refine ⟨kept_over (h.1.trans hk) hk2 (fun i hi e => ?_), hown⟩
  rcases h.2.2 with ⟨rfl, _⟩ | ⟨g, cap, cur, rfl, hb, _⟩
  · cases e
  · have e' : g = i := by simpa [Value.ownBlock] using e
    omega
theorem LT.slice {w0 : World} {t : TypeId} {s : Nat} {v : Value} {n : Nat} {xs : List Value} {wr : World} (h : LT w0 t s v n xs wr) : ∃ A cap, v = .slice A n cap ∧ n ≤ cap ∧ cap ≤ maxLen ∧ (0 < n → ∃ B, A = some ⟨B, 0, none⟩ ∧ ∀ j u, xs[j]? = some u → wr.cell? ⟨B, j, none⟩ = some u) := by
  rcases h.2.2 with ⟨rfl, h0⟩ | ⟨B, cap, cur, rfl, hB, -, hcp, hcp2, -⟩
  · exact ⟨none, 0, by rw [h0], by omega, by unfold maxLen; omega, fun h => absurd h (by omega)⟩
  · refine ⟨some ⟨B, 0, none⟩, cap, rfl, hcp, hcp2, fun _ => ⟨B, rfl, fun j u hj => ?_⟩⟩
    have := h.2.cells (g := B) rfl j u hj
    rwa [add_at] at this

theorem lt_base {w : World} {a b : Nat} {t : TypeId} {s : Nat} {v : Value} {n : Nat} {xs : List Value} (hab : a ≤ b) (h : w.ownsRow b t s v n xs) : w.ownsRow a t s v n xs := by
  refine ⟨h.1, ?_⟩
  rcases h.2 with h0 | ⟨g, cap, cur, e, hb, rest⟩
  · exact .inl h0
  · exact .inr ⟨g, cap, cur, e, Nat.le_trans hab hb, rest⟩
/-- How many squares of side s lie ahead of D. -/
def nC (D s : Int) : Nat := ((D + s - 1) / s).toNat
theorem nC_iff {D s : Int} (hs : 1 ≤ s) (hD : 0 ≤ D) (a : Nat) : s * (a : Int) < D ↔ a < nC D s := by
  unfold nC
  have h0 : 0 ≤ (D + s - 1) / s := Int.ediv_nonneg (by omega) (by omega)
  have h1 := Int.le_ediv_iff_mul_le (a := (a : Int) + 1) (b := D + s - 1) (c := s) (by omega)
  have h2 : ((a : Int) + 1) * s = s * (a : Int) + s := by rw [Int.add_mul, Int.mul_comm]; omega
  rw [h2] at h1
  omega
theorem nC_le {D s : Int} (hs : 1 ≤ s) (hs2 : s ≤ 256) (hD : 0 ≤ D) (hD2 : D ≤ 512) : nC D s ≤ 1024 := by
  unfold nC
  have := Int.ediv_le_self (a := D + s - 1) s (by omega)
  omega
def cmL (x y W H s X Y : Int) : List (Nat → Int) := if cmB x y W H X Y s = true then [cmV x y W H X Y s] else []
theorem cmL_len (x y W H s X Y : Int) : (cmL x y W H s X Y).length ≤ 1 := by unfold cmL; split <;> simp
def tlRow (x y W H s X0 Y : Int) : Nat → List (Nat → Int)
  | 0 => []
  | a + 1 => tlRow x y W H s X0 Y a ++ cmL x y W H s (X0 + s * (a : Int)) Y
def tlAll (x y W H s X0 Y0 : Int) (nx : Nat) : Nat → List (Nat → Int)
  | 0 => []
  | b + 1 => tlAll x y W H s X0 Y0 nx b ++ tlRow x y W H s X0 (Y0 + s * (b : Int)) nx
theorem tlRow_len (x y W H s X0 Y : Int) : ∀ a, (tlRow x y W H s X0 Y a).length ≤ a
  | 0 => Nat.le_refl _
  | a + 1 => by
    have h1 := tlRow_len x y W H s X0 Y a
    have h2 := cmL_len x y W H s (X0 + s * (a : Int)) Y
    unfold tlRow
    rw [List.length_append]
    omega
theorem tlAll_len (x y W H s X0 Y0 : Int) (nx : Nat) : ∀ b, (tlAll x y W H s X0 Y0 nx b).length ≤ b * nx
  | 0 => by simp [tlAll]
  | b + 1 => by
    have h1 := tlAll_len x y W H s X0 Y0 nx b
    have h2 := tlRow_len x y W H s X0 (Y0 + s * (b : Int)) nx
    unfold tlAll
    rw [List.length_append, Nat.add_mul]
    omega
/-- The tiles of a region. -/
def tiles (x y W H s : Int) : List (Nat → Int) := tlAll x y W H s (x - fmI x s) (y - fmI y s) (nC (W + fmI x s) s) (nC (H + fmI y s) s)
theorem tiles_len {x y W H s : Int} (w0 : 1 ≤ W) (w1 : W ≤ 256) (h0 : 1 ≤ H) (h1 : H ≤ 256) (s0 : 1 ≤ s) (s1 : s ≤ 256) : (tiles x y W H s).length ≤ 1048576 := by
  have a := fmI_bd (a := x) s0
  have b := fmI_bd (a := y) s0
  have c := nC_le (D := W + fmI x s) s0 s1 (by omega) (by omega)
  have d := nC_le (D := H + fmI y s) s0 s1 (by omega) (by omega)
  exact Nat.le_trans (tlAll_len ..) (Nat.le_trans (Nat.mul_le_mul d c) (by omega))
theorem region_info : (Try.prog.info? 23).map (fun i => (i.zero, i.size, i.bytes)) = some (some (.agg #[.int .i64 0, .int .i64 0, .int .i64 0, .int .i64 0]), 4, 32) := by kernel_rfl
theorem news_four {w : World} {b : Nat} {u0 u1 u2 u3 : Value} (h0 : w.cell? ⟨b, 0, none⟩ = some u0) (h1 : w.cell? ⟨b, 1, none⟩ = some u1) (h2 : w.cell? ⟨b, 2, none⟩ = some u2) (h3 : w.cell? ⟨b, 3, none⟩ = some u3) : ∀ j u, [u0, u1, u2, u3][j]? = some u → w.cell? ((⟨b, 0, none⟩ : Addr).add j) = some u := fun j u hj => by
  match j with
  | 0 => simp at hj; subst hj; simpa [Addr.add] using h0
  | 1 => simp at hj; subst hj; simpa [Addr.add] using h1
  | 2 => simp at hj; subst hj; simpa [Addr.add] using h2
  | 3 => simp at hj; subst hj; simpa [Addr.add] using h3
  | j + 4 => simp at hj

def TlP (w : World) (T : List (Nat → Int)) (e : Ending) (w' : World) : Prop := ∃ v, e = .returned (.tuple #[v, .int .i64 0]) ∧ LT w 23 4 v T.length (flat4 T) w'
set_option linter.unusedSimpArgs false in
set_option linter.unusedVariables false in
set_option maxHeartbeats 4000000 in
set_option maxRecDepth 100000 in
theorem tiles_err1 (x y W H s : Int) (w : World) (E : Int) (hE : regE x y W H = E) (h0 : ¬ E = 0) :
    Calls Try.prog 24 #[.agg #[.int .i64 x, .int .i64 y, .int .i64 W, .int .i64 H], .int .i64 s] w fun e w' => e = .returned (.tuple #[.slice none 0 0, .int .i64 E]) ∧ Kept None' w w' := by
  have HE := Lib.hid hE
  have g0 : (E != 0) = true := by simp [h0]
  clear hE h0
  go_enter Try.func24, Try.ntmps24
  go_wp2_with (go_at_call 44; refine (checkregion_any _ _ _ _ _).mono ?_; rw [HE.out]; rintro e w1 ⟨rfl, hk⟩)
  go_ret2
  exact ⟨rfl, ((Kept.refl _ _).alloc _ _).trans hk⟩
set_option linter.unusedSimpArgs false in
set_option linter.unusedVariables false in
set_option maxHeartbeats 4000000 in
set_option maxRecDepth 100000 in
theorem tiles_err2 (x y W H s : Int) (w : World) (hE : regE x y W H = 0) (hs : inB s 1 256 = false) :
    Calls Try.prog 24 #[.agg #[.int .i64 x, .int .i64 y, .int .i64 W, .int .i64 H], .int .i64 s] w fun e w' => e = .returned (.tuple #[.slice none 0 0, .int .i64 3]) ∧ Kept None' w w' := by
  have HE := Lib.hid hE
  have h2 : s < 1 ∨ 256 < s := by unfold inB at hs; simp at hs; omega
  clear hE hs
  by_cases h1 : s < 1
  · have d1 : decide (s < 1) = true := decide_eq_true h1
    go_enter Try.func24, Try.ntmps24
    go_wp2_with (go_at_call 44; refine (checkregion_any _ _ _ _ _).mono ?_; rw [HE.out]; rintro e w1 ⟨rfl, hk⟩)
    go_ret2
    exact ⟨rfl, ((Kept.refl _ _).alloc _ _).trans hk⟩
  · have d1 : decide (s < 1) = false := decide_eq_false h1
    have d2 : decide (256 < s) = true := decide_eq_true (by omega)
    clear h2
    go_enter Try.func24, Try.ntmps24
    go_wp2_with (go_at_call 44; refine (checkregion_any _ _ _ _ _).mono ?_; rw [HE.out]; rintro e w1 ⟨rfl, hk⟩)
    go_ret2
    exact ⟨rfl, ((Kept.refl _ _).alloc _ _).trans hk⟩
set_option linter.unusedSimpArgs false in
set_option linter.unusedVariables false in
set_option maxHeartbeats 8000000 in
set_option maxRecDepth 100000 in
theorem tiles_ok (x y W H s : Int) (w : World) (hE : regE x y W H = 0) (s0 : 1 ≤ s) (s1 : s ≤ 256) :
    Calls Try.prog 24 #[.agg #[.int .i64 x, .int .i64 y, .int .i64 W, .int .i64 H], .int .i64 s] w (TlP w (tiles x y W H s)) := by
  obtain ⟨p0, p1, q0, q1, -⟩ := regE_ok hE
  obtain ⟨bx1, bx2, by1, by2⟩ := regE_place hE
  have x0 : -1048576 ≤ x := by omega
  have x1 : x ≤ 1048576 := by omega
  have y0 : -1048576 ≤ y := by omega
  have y1 : y ≤ 1048576 := by omega
  clear bx1 bx2 by1 by2
  have d1 : decide (s < 1) = false := decide_eq_false (by omega)
  have d2 : decide (256 < s) = false := decide_eq_false (by omega)
  have HE := Lib.hid hE
  obtain ⟨dx, hdx⟩ : ∃ d, fmI x s = d := ⟨_, rfl⟩
  obtain ⟨dy, hdy⟩ : ∃ d, fmI y s = d := ⟨_, rfl⟩
  have b1 := fmI_bd (a := x) s0
  have b2 := fmI_bd (a := y) s0
  rw [hdx] at b1
  rw [hdy] at b2
  obtain ⟨dx0, dx1⟩ := b1
  obtain ⟨dy0, dy1⟩ := b2
  have HT := Lib.hid (show tiles x y W H s = tlAll x y W H s (x - dx) (y - dy) (nC (W + dx) s) (nC (H + dy) s) by unfold tiles; rw [hdx, hdy])
  have HDX := Lib.hid hdx
  have HDY := Lib.hid hdy
  have HNX := Lib.hid (fun a => nC_iff (D := W + dx) s0 (by omega) a)
  have HNY := Lib.hid (fun a => nC_iff (D := H + dy) s0 (by omega) a)
  have nx1 := nC_le (D := W + dx) s0 s1 (by omega) (by omega)
  have ny1 := nC_le (D := H + dy) s0 s1 (by omega) (by omega)
  clear hE hdx hdy
  generalize nC (W + dx) s = nx at *
  generalize nC (H + dy) s = ny at *
  obtain ⟨X0, hX0⟩ : ∃ X, x - dx = X := ⟨_, rfl⟩
  obtain ⟨Y0, hY0⟩ : ∃ Y, y - dy = Y := ⟨_, rfl⟩
  have HX0 := Lib.hid hX0
  have HY0 := Lib.hid hY0
  have HT' := Lib.hid (show tiles x y W H s = tlAll x y W H s X0 Y0 nx ny by rw [HT.out, hX0, hY0])
  clear HT hX0 hY0
  obtain ⟨i0, hi0, hz0, hz1, hz2⟩ := info_parts' region_info
  have HI := Lib.hid (And.intro hi0 (And.intro hz0 (And.intro hz1 hz2)))
  clear hi0 hz0 hz1 hz2
  go_enter Try.func24, Try.ntmps24
  go_upto_region 1 with fail
  refine of_world (fun W0 hW => ?_)
  have k0 : Kept None' w W0 := by rw [hW]; exact (Kept.refl _ _).alloc _ _
  have t0 : W0.cell? ⟨w.heap.size, 0, none⟩ = some (.int .i64 x) := by rw [hW]; exact cell_alloc_one w _ _ 0
  have t1 : W0.cell? ⟨w.heap.size, 1, none⟩ = some (.int .i64 y) := by rw [hW]; exact cell_alloc_one w _ _ 1
  have t2 : W0.cell? ⟨w.heap.size, 2, none⟩ = some (.int .i64 W) := by rw [hW]; exact cell_alloc_one w _ _ 2
  have t3 : W0.cell? ⟨w.heap.size, 3, none⟩ = some (.int .i64 H) := by rw [hW]; exact cell_alloc_one w _ _ 3
  have HB := Lib.hid (show ∀ W', Kept None' W0 W' → W'.cell? ⟨w.heap.size, 0, none⟩ = some (.int .i64 x) ∧ W'.cell? ⟨w.heap.size, 1, none⟩ = some (.int .i64 y) ∧ W'.cell? ⟨w.heap.size, 2, none⟩ = some (.int .i64 W) ∧ W'.cell? ⟨w.heap.size, 3, none⟩ = some (.int .i64 H) from fun W' k => ⟨k.some t0 id, k.some t1 id, k.some t2 id, k.some t3 id⟩)
  have K0 := Lib.hid k0
  clear hW k0
  generalize w.heap.size = Q at *
  go_upto_region 7 with (go_at_call 44; refine (checkregion_any _ _ _ _ _).mono ?_; rw [HE.out]; rintro e w1 ⟨rfl, hk⟩)
  have K1 := Lib.hid hk
  clear hk t0 t1 t2 t3
  obtain ⟨t0, t1, t2, t3⟩ := HB.out _ K1.out
  go_upto_region 8 with (go_at_call 45; refine (floordiv_any _ _ _ x0 x1 s0 s1).mono ?_; rw [HDX.out]; rintro e w2 ⟨r1, rfl, hk⟩)
  have K2 := Lib.hid (K1.out.trans hk)
  clear hk t0 t1 t2 t3
  obtain ⟨t0, t1, t2, t3⟩ := HB.out _ K2.out
  go_upto_region 9 with (go_at_call 45; refine (floordiv_any _ _ _ y0 y1 s0 s1).mono ?_; rw [HDY.out]; rintro e w3 ⟨r2, rfl, hk⟩)
  have K3 := Lib.hid (K2.out.trans hk)
  clear hk t0 t1 t2 t3
  obtain ⟨t0, t1, t2, t3⟩ := HB.out _ K3.out
  go_wp2_with fail
  clear t0 t1 t2 t3
  go_loopw [7, 12] (fun s7 s12 wr => ∃ (b : Nat) (Y : Int) (v : Value), b ≤ ny ∧ Hid (Y = Y0 + s * (b : Int)) ∧ y - 256 ≤ Y ∧ Y ≤ y + H + s ∧ s12 = .int .i64 Y ∧ v = s7 ∧ LT W0 23 4 v (tlAll x y W H s X0 Y0 nx b).length (flat4 (tlAll x y W H s X0 Y0 nx b)) wr) (fun _ s12 _ => (y + H - intOf s12).toNat)
  case atStart => exact ⟨0, y - dy, _, Nat.zero_le _, Lib.hid (by rw [← HY0.out]; simp), by omega, by omega, rfl, rfl, LT.nil W0 _ _ K3.out⟩
  case round =>
    obtain ⟨b, Y, v, hb, HY, Yl, Yh, rfl, rfl, hS⟩ := hrel
    have HS := Lib.hid hS
    obtain ⟨t0, t1, t2, t3⟩ := HB.out _ hS.1
    have hYB := HNY.out b
    have HYB := Lib.hid hYB
    have htl := tlAll_len x y W H s X0 Y0 nx b
    clear hS hYB
    by_cases hlt : Y < y + H
    · have e1 : decide (Y < y + H) = true := decide_eq_true hlt
      have hb2 : b < ny := HYB.out.1 (by have h1 := HY.out; have h2 := HY0.out; generalize s * (b : Int) = sb at *; omega)
      have hmul : b * nx ≤ 1048576 := Nat.le_trans (Nat.mul_le_mul (show b ≤ 1024 by omega) nx1) (by omega)
      have hT1 : (tlAll x y W H s X0 Y0 nx b).length ≤ 1048576 := Nat.le_trans htl hmul
      clear htl hmul HYB
      have HSU := Lib.hid (show tlAll x y W H s X0 Y0 nx (b + 1) = tlAll x y W H s X0 Y0 nx b ++ tlRow x y W H s X0 Y nx by rw [HY.out]; rfl)
      have HT1 := Lib.hid hT1
      clear hT1
      generalize tlAll x y W H s X0 Y0 nx b = T0 at *
      go_wp2_with fail
      clear t0 t1 t2 t3
      go_loopw [7, 13] (fun s7 s13 wq => ∃ (a : Nat) (X : Int) (v : Value), a ≤ nx ∧ Hid (X = X0 + s * (a : Int)) ∧ x - 256 ≤ X ∧ X ≤ x + W + s ∧ s13 = .int .i64 X ∧ v = s7 ∧ LT W0 23 4 v (T0 ++ tlRow x y W H s X0 Y a).length (flat4 (T0 ++ tlRow x y W H s X0 Y a)) wq) (fun _ s13 _ => (x + W - intOf s13).toNat)
      case atStart => exact ⟨0, x - dx, _, Nat.zero_le _, Lib.hid (by rw [← HX0.out]; simp), by omega, by omega, rfl, rfl, by have := HS.out; simpa [tlRow] using this⟩
      case round =>
        obtain ⟨a, X, v2, ha, HX, Xl, Xh, rfl, rfl, hS⟩ := hrel
        have HS2 := Lib.hid hS
        obtain ⟨t0, t1, t2, t3⟩ := HB.out _ hS.1
        have hXB := HNX.out a
        have HXB := Lib.hid hXB
        have htl := tlRow_len x y W H s X0 Y a
        clear hS hXB
        by_cases hlt2 : X < x + W
        · have e2 : decide (X < x + W) = true := decide_eq_true hlt2
          have ha2 : a < nx := HXB.out.1 (by have h1 := HX.out; have h2 := HX0.out; generalize s * (a : Int) = sa at *; omega)
          have HXn := Lib.hid (show X + s = X0 + s * ((a + 1 : Nat) : Int) by rw [HX.out, Int.natCast_add, Int.mul_add]; simp; omega)
          have HRW := Lib.hid (show T0 ++ tlRow x y W H s X0 Y (a + 1) = (T0 ++ tlRow x y W H s X0 Y a) ++ cmL x y W H s X Y by rw [HX.out, List.append_assoc]; rfl)
          have hlen : (T0 ++ tlRow x y W H s X0 Y a).length ≤ 1049600 := by rw [List.length_append]; have := HT1.out; omega
          clear htl HXB
          generalize T0 ++ tlRow x y W H s X0 Y a = T at *
          have HLn := Lib.hid hlen
          clear hlen
          cases hcb : cmB x y W H X Y s with
          | true =>
            have HCB := Lib.hid hcb
            have HRW2 := Lib.hid (show T0 ++ tlRow x y W H s X0 Y (a + 1) = T ++ [cmV x y W H X Y s] by rw [HRW.out]; unfold cmL; rw [if_pos hcb])
            clear hcb
            go_upto_region 16 with (go_at_call 46; refine (common_yes x y W H X Y s _ x0 x1 y0 y1 p0 p1 q0 q1 (by omega) (by omega) (by omega) (by omega) s0 s1 HCB.out).mono ?_; rintro e w5 ⟨rfl, hk⟩)
            have HCV := Lib.hid (show row4 (cmV x y W H X Y s) = [.int .i64 (cmV x y W H X Y s 0), .int .i64 (cmV x y W H X Y s 1), .int .i64 (cmV x y W H X Y s 2), .int .i64 (cmV x y W H X Y s 3)] from rfl)
            generalize cmV x y W H X Y s = cv at *
            refine of_world (fun W6 hW => ?_)
            have k6 : Kept None' w5 W6 := by rw [hW]; exact (Kept.refl _ _).alloc _ _
            have c0 : W6.cell? ⟨w5.heap.size, 0, none⟩ = some (.int .i64 (cv 0)) := by rw [hW]; exact cell_alloc_one w5 _ _ 0
            have c1 : W6.cell? ⟨w5.heap.size, 1, none⟩ = some (.int .i64 (cv 1)) := by rw [hW]; exact cell_alloc_one w5 _ _ 1
            have c2 : W6.cell? ⟨w5.heap.size, 2, none⟩ = some (.int .i64 (cv 2)) := by rw [hW]; exact cell_alloc_one w5 _ _ 2
            have c3 : W6.cell? ⟨w5.heap.size, 3, none⟩ = some (.int .i64 (cv 3)) := by rw [hW]; exact cell_alloc_one w5 _ _ 3
            have HS6 := Lib.hid ((HS2.out.step hk).step k6)
            clear hW k6 hk t0 t1 t2 t3
            generalize w5.heap.size = Z at *
            obtain ⟨hi0, hz0, hz1, hz2⟩ := HI.out
            have hlen := HLn.out
            go_wp2_with (first
              | (at_builtin; refine wpList_append_kept _ (by rfl) _ _ _ (by rfl) W0.heap.size 23 i0 _ 4 32 Try.underlying58 hi0 hz0 hz1 hz2 rfl (by omega) v2 T.length (flat4 T) (by rfl)
                  (own_kept HS6.out.2 ((Kept.refl _ _).alloc _ _)) ⟨W6.heap.size, 0, none⟩ 1 1 [.int .i64 (cv 0), .int .i64 (cv 1), .int .i64 (cv 2), .int .i64 (cv 3)] (by rfl) rfl (news_four (cell_alloc_one W6 _ _ 0) (cell_alloc_one W6 _ _ 1) (cell_alloc_one W6 _ _ 2) (cell_alloc_one W6 _ _ 3)) (by simp [Value.oneCell']) (by omega) (by unfold maxLen; omega) (by omega) (by have := HS6.out.1.size; simp; omega) ?_
                 intro g4 cap4 w7 hown4 hk4 hat4
                 have HO := Lib.hid (And.intro hown4 hk4)
                 clear hown4 hk4 hat4)
              | fail)
            go_roundw
            case rel => exact ⟨a + 1, X + s, _, by omega, HXn, by omega, by omega, rfl, rfl, by rw [HRW2.out, List.length_append, flat4_snoc, HCV.out]; exact HS6.out.app ((Kept.refl _ _).alloc _ _) HO.out.2 HO.out.1⟩
            case measure => simp [intOf]; omega
          | false =>
            have HCB := Lib.hid hcb
            have HRW2 := Lib.hid (show T0 ++ tlRow x y W H s X0 Y (a + 1) = T by rw [HRW.out]; unfold cmL; rw [if_neg (by rw [hcb]; decide), List.append_nil])
            clear hcb
            go_wp2_with (go_at_call 46; refine (common_no x y W H X Y s _ x0 x1 y0 y1 p0 p1 q0 q1 (by omega) (by omega) (by omega) (by omega) s0 s1 HCB.out).mono ?_; rintro e w5 ⟨rfl, hk⟩)
            go_roundw
            case rel => exact ⟨a + 1, X + s, _, by omega, HXn, by omega, by omega, rfl, rfl, by rw [HRW2.out]; exact (HS2.out.step hk).step ((Kept.refl _ _).alloc _ _)⟩
            case measure => simp [intOf]; omega
        · have e2 : decide (X < x + W) = false := decide_eq_false hlt2
          have ha3 : a = nx := by
            have h3 : ¬ a < nx := fun h => hlt2 (by have h4 := HXB.out.2 h; have h1 := HX.out; have h2 := HX0.out; generalize s * (a : Int) = sa at *; omega)
            omega
          subst ha3
          have HYn := Lib.hid (show Y + s = Y0 + s * ((b + 1 : Nat) : Int) by rw [HY.out, Int.natCast_add, Int.mul_add]; simp; omega)
          clear htl HXB
          go_wp2_with fail
          go_roundw
          case rel => exact ⟨b + 1, Y + s, _, by omega, HYn, by omega, by omega, rfl, rfl, by rw [HSU.out]; exact HS2.out⟩
          case measure => simp [intOf]; omega
    · have e1 : decide (Y < y + H) = false := decide_eq_false hlt
      have hb3 : b = ny := by
        have h3 : ¬ b < ny := fun h => hlt (by have h4 := HYB.out.2 h; have h1 := HY.out; have h2 := HY0.out; generalize s * (b : Int) = sb at *; omega)
        omega
      subst hb3
      clear htl HYB
      go_wp2_with fail
      go_ret2
      have := HS.out
      rw [← HT'.out] at this
      exact ⟨v, rfl, K0.out.trans this.1, lt_base K0.out.size this.2⟩
end Go.Proofs.Ytflmfjimemhooaa
