/- The contract of grained's function. Conditions: none. -/
import Derived.Test.YtfphhlodfieopaaGo
import Derived.Test.YtfphhlodfieopaaVg
namespace Go.Proofs.Ytfphhlodfieopaa
open Go.RowKit
open Fl Fr

theorem limP_fV (o : BinOp) (x y a b : Nat) (w : World) : limP (fV o .f32 x y w) a b = limP (fC o .f32 x y) a b := by rw [← limP_cl, cl_fV']
def gSd (s number : Int) : Int := bits .xor .u32 s (number % 4294967296)
def gU (s number a b q : Int) : Nat := unitP (hIt (gSd s number) a b q 3)
def gN (s number a b ch : Int) : Nat := fC .sub .f32 (fC .mul .f32 (fC .add .f32 (fC .add .f32 (gU s number a b (4 * ch)) (gU s number a b (4 * ch + 1))) (fC .add .f32 (gU s number a b (4 * ch + 2)) (gU s number a b (4 * ch + 3)))) 1056964608) 1065353216
def gW (F v : Nat) : Nat := limP (fC .sub .f32 1065353216 (fC .mul .f32 F v)) 0 1065353216
def gP (s number a b ch : Int) (S F v : Nat) : Nat := fC .add .f32 v (fC .mul .f32 (fC .mul .f32 (gN s number a b ch) S) (gW F v))

/-- The boxes of a right grain: the grain at G, the number at N, the places at A and B. -/
def GrB (s z : Int) (S F : Nat) (m : Bool) (number a b : Int) (G N A B : Nat) (w : World) : Prop :=
  w.cell? ⟨G, 0, none⟩ = some (.int .u32 s) ∧ w.cell? ⟨G, 1, none⟩ = some (.int .i64 z) ∧ w.cell? ⟨G, 2, none⟩ = some (.float .f32 S) ∧ w.cell? ⟨G, 3, none⟩ = some (.float .f32 F) ∧ w.cell? ⟨G, 4, none⟩ = some (.bool m) ∧
  w.cell? ⟨N, 0, none⟩ = some (.int .i64 number) ∧ w.cell? ⟨A, 0, none⟩ = some (.int .i64 a) ∧ w.cell? ⟨B, 0, none⟩ = some (.int .i64 b)
theorem GrB.kept {s z : Int} {S F : Nat} {m : Bool} {number a b : Int} {G N A B : Nat} {w w' : World} (h : GrB s z S F m number a b G N A B w) (k : Kept None' w w') : GrB s z S F m number a b G N A B w' :=
  ⟨k.some h.1 id, k.some h.2.1 id, k.some h.2.2.1 id, k.some h.2.2.2.1 id, k.some h.2.2.2.2.1 id, k.some h.2.2.2.2.2.1 id, k.some h.2.2.2.2.2.2.1 id, k.some h.2.2.2.2.2.2.2 id⟩

set_option linter.unusedSimpArgs false in
set_option linter.unusedVariables false in
set_option maxHeartbeats 4000000 in
set_option maxRecDepth 100000 in
theorem grained1_f (s z : Int) (S F : Nat) (number a b c : Int) (v G N A B : Nat) (w : World) (h : GrB s z S F false number a b G N A B w) (h0 : 0 ≤ c) (h3 : c < 3) :
    Calls Try.prog 108 #[.int .i64 c, .float .f32 v, .pointer (some ⟨G, 0, none⟩), .pointer (some ⟨N, 0, none⟩), .pointer (some ⟨A, 0, none⟩), .pointer (some ⟨B, 0, none⟩)] w fun e w' =>
      ∃ r, e = .returned (.float .f32 r) ∧ cl .f32 r = gP s number a b c S F v ∧ Kept None' w w' := by
  obtain ⟨a0, a1, a2, a3, a4, a5, a6, a7⟩ := h
  have l0 := cell_lt a0
  have l5 := cell_lt a5
  have l6 := cell_lt a6
  have l7 := cell_lt a7
  have w0 : wrap64 (4 * c) = 4 * c := by unfold wrap64; omega
  have w1 : wrap64 (4 * c + 1) = 4 * c + 1 := by unfold wrap64; omega
  have w2 : wrap64 (4 * c + 2) = 4 * c + 2 := by unfold wrap64; omega
  have w3 : wrap64 (4 * c + 3) = 4 * c + 3 := by unfold wrap64; omega
  obtain ⟨sd, hsd⟩ : ∃ y, bits .xor .u32 s (number % 4294967296) = y := ⟨_, rfl⟩
  obtain ⟨y0, e0⟩ : ∃ y, hIt sd a b (4 * c) 3 = y := ⟨_, rfl⟩
  obtain ⟨y1, e1⟩ : ∃ y, hIt sd a b (4 * c + 1) 3 = y := ⟨_, rfl⟩
  obtain ⟨y2, e2⟩ : ∃ y, hIt sd a b (4 * c + 2) 3 = y := ⟨_, rfl⟩
  obtain ⟨y3, e3⟩ : ∃ y, hIt sd a b (4 * c + 3) 3 = y := ⟨_, rfl⟩
  have r0 := hIt_range sd a b (4 * c) 3
  have r1 := hIt_range sd a b (4 * c + 1) 3
  have r2 := hIt_range sd a b (4 * c + 2) 3
  have r3 := hIt_range sd a b (4 * c + 3) 3
  rw [e0] at r0
  rw [e1] at r1
  rw [e2] at r2
  rw [e3] at r3
  obtain ⟨u0, d0⟩ : ∃ y, unitP y0 = y := ⟨_, rfl⟩
  obtain ⟨u1, d1⟩ : ∃ y, unitP y1 = y := ⟨_, rfl⟩
  obtain ⟨u2, d2⟩ : ∃ y, unitP y2 = y := ⟨_, rfl⟩
  obtain ⟨u3, d3⟩ : ∃ y, unitP y3 = y := ⟨_, rfl⟩
  have hE : gP s number a b c S F v = fC .add .f32 v (fC .mul .f32 (fC .mul .f32 (fC .sub .f32 (fC .mul .f32 (fC .add .f32 (fC .add .f32 u0 u1) (fC .add .f32 u2 u3)) 1056964608) 1065353216) S) (limP (fC .sub .f32 1065353216 (fC .mul .f32 F v)) 0 1065353216)) := by
    unfold gP gW gN gU gSd
    rw [hsd, e0, e1, e2, e3, d0, d1, d2, d3]
  rw [hE]
  have R := Lib.hid (And.intro r0 (And.intro r1 (And.intro r2 r3)))
  have E := Lib.hid (And.intro e0 (And.intro e1 (And.intro e2 e3)))
  have D := Lib.hid (And.intro d0 (And.intro d1 (And.intro d2 d3)))
  clear r0 r1 r2 r3 e0 e1 e2 e3 d0 d1 d2 d3 hE
  go_enter Try.func108, Try.ntmps108
  go_wp2_with fail
  refine wp_loop_rounds 5 ?_
  repeat
    rw [rounds_succ]
    go_wp2_with (first
      | (go_at_call 110; refine (hash_any _ _ _ _ _).mono ?_; (first | rw [E.out.1] | rw [E.out.2.1] | rw [E.out.2.2.1] | rw [E.out.2.2.2]); rintro e w' ⟨rfl, rfl⟩)
      | (go_at_call 109; refine (unit_any _ _ (by first | exact R.out.1.1 | exact R.out.2.1.1 | exact R.out.2.2.1.1 | exact R.out.2.2.2.1) (by first | exact R.out.1.2 | exact R.out.2.1.2 | exact R.out.2.2.1.2 | exact R.out.2.2.2.2)).mono ?_; (first | rw [D.out.1] | rw [D.out.2.1] | rw [D.out.2.2.1] | rw [D.out.2.2.2]); rintro e w' ⟨rfl, rfl⟩)
      | (go_at_call 71; refine (limit_any _ _ _ _).mono ?_; rintro e w' ⟨rfl, rfl⟩)
      | fail)
  go_ret
  refine ⟨_, rfl, ?_, ?_⟩
  · simp only [cl_fV', fC_fV_l, fC_fV_r, limP_fV]
  · exact ((Kept.refl _ _).alloc _ _).drew _
set_option linter.unusedSimpArgs false in
set_option linter.unusedVariables false in
set_option maxHeartbeats 4000000 in
set_option maxRecDepth 100000 in
theorem grained1_t (s z : Int) (S F : Nat) (number a b c : Int) (v G N A B : Nat) (w : World) (h : GrB s z S F true number a b G N A B w) (h0 : 0 ≤ c) (h3 : c < 3) :
    Calls Try.prog 108 #[.int .i64 c, .float .f32 v, .pointer (some ⟨G, 0, none⟩), .pointer (some ⟨N, 0, none⟩), .pointer (some ⟨A, 0, none⟩), .pointer (some ⟨B, 0, none⟩)] w fun e w' =>
      ∃ r, e = .returned (.float .f32 r) ∧ cl .f32 r = gP s number a b 0 S F v ∧ Kept None' w w' := by
  obtain ⟨a0, a1, a2, a3, a4, a5, a6, a7⟩ := h
  have l0 := cell_lt a0
  have l5 := cell_lt a5
  have l6 := cell_lt a6
  have l7 := cell_lt a7
  obtain ⟨sd, hsd⟩ : ∃ y, bits .xor .u32 s (number % 4294967296) = y := ⟨_, rfl⟩
  obtain ⟨y0, e0⟩ : ∃ y, hIt sd a b 0 3 = y := ⟨_, rfl⟩
  obtain ⟨y1, e1⟩ : ∃ y, hIt sd a b 1 3 = y := ⟨_, rfl⟩
  obtain ⟨y2, e2⟩ : ∃ y, hIt sd a b 2 3 = y := ⟨_, rfl⟩
  obtain ⟨y3, e3⟩ : ∃ y, hIt sd a b 3 3 = y := ⟨_, rfl⟩
  have r0 := hIt_range sd a b 0 3
  have r1 := hIt_range sd a b 1 3
  have r2 := hIt_range sd a b 2 3
  have r3 := hIt_range sd a b 3 3
  rw [e0] at r0
  rw [e1] at r1
  rw [e2] at r2
  rw [e3] at r3
  obtain ⟨u0, d0⟩ : ∃ y, unitP y0 = y := ⟨_, rfl⟩
  obtain ⟨u1, d1⟩ : ∃ y, unitP y1 = y := ⟨_, rfl⟩
  obtain ⟨u2, d2⟩ : ∃ y, unitP y2 = y := ⟨_, rfl⟩
  obtain ⟨u3, d3⟩ : ∃ y, unitP y3 = y := ⟨_, rfl⟩
  have hE : gP s number a b 0 S F v = fC .add .f32 v (fC .mul .f32 (fC .mul .f32 (fC .sub .f32 (fC .mul .f32 (fC .add .f32 (fC .add .f32 u0 u1) (fC .add .f32 u2 u3)) 1056964608) 1065353216) S) (limP (fC .sub .f32 1065353216 (fC .mul .f32 F v)) 0 1065353216)) := by
    unfold gP gW gN gU gSd
    rw [show (4 * (0 : Int)) = 0 from rfl, show (0 : Int) + 1 = 1 from rfl, show (0 : Int) + 2 = 2 from rfl, show (0 : Int) + 3 = 3 from rfl, hsd, e0, e1, e2, e3, d0, d1, d2, d3]
  rw [hE]
  have R := Lib.hid (And.intro r0 (And.intro r1 (And.intro r2 r3)))
  have E := Lib.hid (And.intro e0 (And.intro e1 (And.intro e2 e3)))
  have D := Lib.hid (And.intro d0 (And.intro d1 (And.intro d2 d3)))
  clear r0 r1 r2 r3 e0 e1 e2 e3 d0 d1 d2 d3 hE
  go_enter Try.func108, Try.ntmps108
  go_wp2_with fail
  refine wp_loop_rounds 5 ?_
  repeat
    rw [rounds_succ]
    go_wp2_with (first
      | (go_at_call 110; refine (hash_any _ _ _ _ _).mono ?_; (first | rw [E.out.1] | rw [E.out.2.1] | rw [E.out.2.2.1] | rw [E.out.2.2.2]); rintro e w' ⟨rfl, rfl⟩)
      | (go_at_call 109; refine (unit_any _ _ (by first | exact R.out.1.1 | exact R.out.2.1.1 | exact R.out.2.2.1.1 | exact R.out.2.2.2.1) (by first | exact R.out.1.2 | exact R.out.2.1.2 | exact R.out.2.2.1.2 | exact R.out.2.2.2.2)).mono ?_; (first | rw [D.out.1] | rw [D.out.2.1] | rw [D.out.2.2.1] | rw [D.out.2.2.2]); rintro e w' ⟨rfl, rfl⟩)
      | (go_at_call 71; refine (limit_any _ _ _ _).mono ?_; rintro e w' ⟨rfl, rfl⟩)
      | fail)
  go_ret
  refine ⟨_, rfl, ?_, ?_⟩
  · simp only [cl_fV', fC_fV_l, fC_fV_r, limP_fV]
  · exact ((Kept.refl _ _).alloc _ _).drew _

/-- What grain gives to a channel. -/
def gC (m : Bool) (c : Int) : Int := if m then 0 else c
theorem grained1_any (s z : Int) (S F : Nat) (m : Bool) (number a b c : Int) (v G N A B : Nat) (w : World) (h : GrB s z S F m number a b G N A B w) (h0 : 0 ≤ c) (h3 : c < 3) :
    Calls Try.prog 108 #[.int .i64 c, .float .f32 v, .pointer (some ⟨G, 0, none⟩), .pointer (some ⟨N, 0, none⟩), .pointer (some ⟨A, 0, none⟩), .pointer (some ⟨B, 0, none⟩)] w fun e w' =>
      ∃ r, e = .returned (.float .f32 r) ∧ cl .f32 r = gP s number a b (gC m c) S F v ∧ Kept None' w w' := by
  cases m with
  | false => exact grained1_f s z S F number a b c v G N A B w h h0 h3
  | true => exact grained1_t s z S F number a b c v G N A B w h h0 h3

theorem three_grain (p0 p1 p2 p3 : Nat) (s z : Int) (S F : Nat) (m : Bool) (number a b : Int) (G N A B : Nat) (w : World) (h : GrB s z S F m number a b G N A B w) :
    Calls Try.prog 66 #[.agg #[.float .f32 p0, .float .f32 p1, .float .f32 p2, .float .f32 p3], .func (.func 108) #[] #[.pointer (some ⟨G, 0, none⟩), .pointer (some ⟨N, 0, none⟩), .pointer (some ⟨A, 0, none⟩), .pointer (some ⟨B, 0, none⟩)]] w fun e w' =>
      e = .returned (.agg #[.float .f32 (gP s number a b (gC m 0) S F p0), .float .f32 (gP s number a b (gC m 1) S F p1), .float .f32 (gP s number a b (gC m 2) S F p2), .float .f32 (cl .f32 p3)]) ∧ Kept None' w w' :=
  three_pxK p0 p1 p2 p3 108 #[.pointer (some ⟨G, 0, none⟩), .pointer (some ⟨N, 0, none⟩), .pointer (some ⟨A, 0, none⟩), .pointer (some ⟨B, 0, none⟩)] (fun c v => gP s number a b (gC m c) S F v) w Try.call108
    (fun c v wr h0 h3 hk => grained1_any s z S F m number a b c v G N A B wr (h.kept hk) h0 h3)
end Go.Proofs.Ytfphhlodfieopaa
