/- The walk of CubesCompose. Conditions: none. -/
import Derived.Test.YtkmganophcklgaaCs
import Derived.Test.YtkmganophcklgaaRo
import Derived.Deep.RegionHeld3
namespace Go.Proofs.Ytkmganophcklgaa
open Go.RowKit
open Fl Fr
open BigFrame

/-- A cube's cells. -/
structure CuV where
  s : Int
  l : Nat
  h : Nat
  A : Option Addr
  m : Nat
  k : Nat
/-- The empty cube. -/
def ErP (c : CuV) : Prop := c = ⟨0, 0, 0, none, 0, 0⟩
/-- A cube and its singles. -/
def OkP (S : Int) (lo hi n : Nat) (G : Nat → Nat) (c : CuV) (w : World) : Prop := ∃ B cap, c = ⟨S, lo, hi, some ⟨B, 0, none⟩, n, cap⟩ ∧ ∀ j, j < n → w.cell? ⟨B, j, none⟩ = some (.float .f32 (G j))
/-- A cube of this kind and an error. -/
def CuRes (X : CuV → World → Prop) (ec : Int) (w : World) (e : Ending) (w' : World) : Prop := ∃ c : CuV, e = .returned (.tuple #[.agg #[.int .i64 c.s, .float .f32 c.l, .float .f32 c.h, .slice c.A c.m c.k], .int .i64 ec]) ∧ X c w' ∧ Kept None' w w'
def Firm (X : CuV → World → Prop) : Prop := ∀ c w w', X c w → Kept None' w w' → X c w'
theorem firm_er : Firm (fun c _ => ErP c) := fun _ _ _ h _ => h
theorem firm_ok (S : Int) (lo hi n : Nat) (G : Nat → Nat) : Firm (OkP S lo hi n G) := fun _ _ _ ⟨B, cap, e, f⟩ k => ⟨B, cap, e, fun j hj => k.some (f j hj) id⟩
theorem cuErr_res {E : Int} {w w' : World} {e : Ending} (h : CuErr E w e w') : CuRes (fun c _ => ErP c) E w e w' := ⟨⟨0, 0, 0, none, 0, 0⟩, h.1, rfl, h.2⟩
theorem cuPost_res {S : Int} {lo hi n : Nat} {G : Nat → Nat} {w w' : World} {e : Ending} (h : CuPost S lo hi n G w e w') : CuRes (OkP S lo hi n G) 0 w e w' := by
  obtain ⟨B, cap, -, he, -, -, hk, hc⟩ := h
  exact ⟨⟨S, lo, hi, some ⟨B, 0, none⟩, n, cap⟩, he, ⟨B, cap, rfl, hc⟩, hk⟩
/-- Such a cube's box. -/
structure BxV (C : Nat) (c : CuV) (w : World) : Prop where
  c0 : w.cell? ⟨C, 0, none⟩ = some (.int .i64 c.s)
  c1 : w.cell? ⟨C, 1, none⟩ = some (.float .f32 c.l)
  c2 : w.cell? ⟨C, 2, none⟩ = some (.float .f32 c.h)
  c3 : w.cell? ⟨C, 3, none⟩ = some (.slice c.A c.m c.k)
theorem BxV.step {C : Nat} {c : CuV} {w w' : World} (h : BxV C c w) (k : Kept None' w w') : BxV C c w' := ⟨k.some h.c0 id, k.some h.c1 id, k.some h.c2 id, k.some h.c3 id⟩

/-- The boxes of the law. -/
structure CcB (T U V C D X : Nat) (Sa Sb : Int) (loa hia lob hib : Nat) (Aa Ab : Option Addr) (na capa nb capb : Nat) (N : Int) (c d x : CuV) (w : World) : Prop where
  a0 : w.cell? ⟨T, 0, none⟩ = some (.int .i64 Sa)
  a1 : w.cell? ⟨T, 1, none⟩ = some (.float .f32 loa)
  a2 : w.cell? ⟨T, 2, none⟩ = some (.float .f32 hia)
  a3 : w.cell? ⟨T, 3, none⟩ = some (.slice Aa na capa)
  b0 : w.cell? ⟨U, 0, none⟩ = some (.int .i64 Sb)
  b1 : w.cell? ⟨U, 1, none⟩ = some (.float .f32 lob)
  b2 : w.cell? ⟨U, 2, none⟩ = some (.float .f32 hib)
  b3 : w.cell? ⟨U, 3, none⟩ = some (.slice Ab nb capb)
  v : w.cell? ⟨V, 0, none⟩ = some (.int .i64 N)
  c : BxV C c w
  d : BxV D d w
  x : BxV X x w
theorem CcB.step {T U V C D X : Nat} {Sa Sb : Int} {loa hia lob hib : Nat} {Aa Ab : Option Addr} {na capa nb capb : Nat} {N : Int} {c d x : CuV} {w w' : World} (h : CcB T U V C D X Sa Sb loa hia lob hib Aa Ab na capa nb capb N c d x w) (k : Kept None' w w') : CcB T U V C D X Sa Sb loa hia lob hib Aa Ab na capa nb capb N c d x w' :=
  ⟨k.some h.a0 id, k.some h.a1 id, k.some h.a2 id, k.some h.a3 id, k.some h.b0 id, k.some h.b1 id, k.some h.b2 id, k.some h.b3 id, k.some h.v id, h.c.step k, h.d.step k, h.x.step k⟩
set_option linter.unusedSimpArgs false in
set_option linter.unusedVariables false in
set_option maxHeartbeats 4000000 in
set_option maxRecDepth 100000 in
theorem little_any (S : Int) (lo hi : Nat) (A : Option Addr) (n cap : Nat) (w : World) : Calls Try.prog 61 #[.agg #[.int .i64 S, .float .f32 lo, .float .f32 hi, .slice A n cap]] w fun e w' => e = .returned (.bool (decide (S ≤ 4))) ∧ Kept None' w w' := by
  go_enter Try.func61, Try.ntmps61
  go_wp2_with fail
  go_ret
  exact ⟨rfl, (Kept.refl None' w).alloc _ _⟩

abbrev cell7 (W0 : World) (p0 p1 p2 p3 p4 p5 p6 : Addr) (v0 v1 v2 v3 v4 v5 v6 : Value) (w' : World) : Prop := Kept None' W0 w' ∧ w'.cell? p0 = some v0 ∧ w'.cell? p1 = some v1 ∧ w'.cell? p2 = some v2 ∧ w'.cell? p3 = some v3 ∧ w'.cell? p4 = some v4 ∧ w'.cell? p5 = some v5 ∧ w'.cell? p6 = some v6
theorem cell7_kept {W0 : World} {p0 p1 p2 p3 p4 p5 p6 : Addr} {v0 v1 v2 v3 v4 v5 v6 : Value} {w w' : World} (h : cell7 W0 p0 p1 p2 p3 p4 p5 p6 v0 v1 v2 v3 v4 v5 v6 w) (k : Kept None' w w') : cell7 W0 p0 p1 p2 p3 p4 p5 p6 v0 v1 v2 v3 v4 v5 v6 w' := by
  obtain ⟨a, b, c, d, e, f, g, i⟩ := h
  exact ⟨a.trans k, k.some b id, k.some c id, k.some d id, k.some e id, k.some f id, k.some g id, k.some i id⟩

theorem of_kept {P : Program} {c : Code} {Q : Exit → Act → World → Prop} {a : Act} {w0 W : World} (hk : Kept None' w0 W) (h : ∀ W, Kept None' w0 W → c.wp P Q a W) : c.wp P Q a W := h W hk
theorem lerpof_k (a b t : Nat) (w : World) : Calls Try.prog 63 #[.float .f32 a, .float .f32 b, .float .f32 t] w fun e w' => e = .returned (.float .f32 (lerpP a b t)) ∧ Kept None' w w' := (lerpof_any a b t w).mono fun _ _ ⟨h, n, hw⟩ => ⟨h, by rw [hw]; exact (Kept.refl _ _).drew n⟩
set_option linter.unusedSimpArgs false in
set_option linter.unusedVariables false in
set_option maxHeartbeats 8000000 in
set_option maxRecDepth 100000 in
theorem cc_gen (Sa Sb : Int) (loa hia lob hib : Nat) (Aa Ab : Option Addr) (na capa nb capb : Nat) (N : Int) (t : Nat) (w : World) (Ea Eb E W2 ec ed ex bi : Int) (Xc Xd Xx : CuV → World → Prop)
    (hna : na ≤ 9223372036854775807) (hnb : nb ≤ 9223372036854775807) (hEa : cuE Sa loa hia na = Ea) (hEb : cuE Sb lob hib nb = Eb) (hE : (if Ea ≠ 0 then Ea else Eb) = E) (hbi : (if (!inB N 2 17) = true then (3 : Int) else 0) = bi) (hW2 : (if Ea ≠ 0 then Ea else bi) = W2)
    (fc : Firm Xc) (fd : Firm Xd) (fx : Firm Xx)
    (hCo : ∀ w', Kept None' w w' → Calls Try.prog 58 #[.agg #[.int .i64 Sa, .float .f32 loa, .float .f32 hia, .slice Aa na capa], .agg #[.int .i64 Sb, .float .f32 lob, .float .f32 hib, .slice Ab nb capb]] w' (CuRes Xc ec w'))
    (hRe : ∀ w', Kept None' w w' → Calls Try.prog 59 #[.agg #[.int .i64 Sa, .float .f32 loa, .float .f32 hia, .slice Aa na capa], .int .i64 N] w' (CuRes Xd ed w'))
    (hBl : ∀ w', Kept None' w w' → Calls Try.prog 60 #[.agg #[.int .i64 Sa, .float .f32 loa, .float .f32 hia, .slice Aa na capa], .agg #[.int .i64 Sb, .float .f32 lob, .float .f32 hib, .slice Ab nb capb], .float .f32 t] w' (CuRes Xx ex w'))
    (hPB : (¬ E = 0 ∧ ec = E ∧ ex = E ∧ (∀ c W, Xc c W → ErP c) ∧ (∀ c W, Xx c W → ErP c)) ∨ (E = 0 ∧ decide (Sa ≤ 4) = false) ∨ (E = 0 ∧ decide (Sa ≤ 4) = true ∧ ec = 0 ∧ ((∃ (nG : Nat) (Gc : Nat → Nat), (∀ c W, Xc c W → OkP Sa loa hia nG Gc c W) ∧ nG ≤ 65536 ∧ ∀ (T U : Nat) (W : World), Kept None' w W → BxV T ⟨Sa, loa, hia, Aa, na, capa⟩ W → BxV U ⟨Sb, lob, hib, Ab, nb, capb⟩ W → Calls Try.prog 18 #[.int .i64 Sa, .float .f32 loa, .float .f32 hia, .func (.func 62) #[] #[.pointer (some ⟨T, 0, none⟩), .pointer (some ⟨U, 0, none⟩)]] W (CuMade Sa loa hia nG Gc W)) ∧ ((cu2S Sa loa hia Sb lob hib = false ∧ ex = 12 ∧ ∀ c W, Xx c W → ErP c) ∨ (cu2S Sa loa hia Sb lob hib = true ∧ ex = 0 ∧ na = nb ∧ 0 < na ∧ na ≤ 14739 ∧ ∃ (ba oa bb ob : Nat) (za zb : Nat → Nat), Aa = some ⟨ba, oa, none⟩ ∧ Ab = some ⟨bb, ob, none⟩ ∧ (∀ j, j < na → w.cell? ⟨ba, oa + j, none⟩ = some (.float .f32 (za j))) ∧ (∀ j, j < na → w.cell? ⟨bb, ob + j, none⟩ = some (.float .f32 (zb j))) ∧ ∀ c W, Xx c W → OkP Sa loa hia na (fun j => lerpP (za j) (zb j) t) c W)))))
    (hPC : (¬ W2 = 0 ∧ ed = W2 ∧ (∀ c W, Xd c W → ErP c)) ∨ (W2 = 0 ∧ ed = 0 ∧ ∃ (nG : Nat) (Gd : Nat → Nat), (∀ c W, Xd c W → OkP N loa hia nG Gd c W) ∧ nG ≤ 65536 ∧ ∀ (T U : Nat) (W : World), Kept None' w W → BxV T ⟨Sa, loa, hia, Aa, na, capa⟩ W → W.cell? ⟨U, 0, none⟩ = some (.int .i64 N) → Calls Try.prog 18 #[.int .i64 N, .float .f32 loa, .float .f32 hia, .func (.func 64) #[] #[.pointer (some ⟨T, 0, none⟩), .pointer (some ⟨U, 0, none⟩)]] W (CuMade N loa hia nG Gd W))) :
    Calls Try.prog 9 #[.agg #[.int .i64 Sa, .float .f32 loa, .float .f32 hia, .slice Aa na capa], .agg #[.int .i64 Sb, .float .f32 lob, .float .f32 hib, .slice Ab nb capb], .int .i64 N, .float .f32 t] w fun e w' => e = .returned (.bool true) ∧ Kept None' w w' := by
  have HCo := Lib.hid hCo
  have HRe := Lib.hid hRe
  have HBl := Lib.hid hBl
  have HEa := Lib.hid hEa
  have HEb := Lib.hid hEb
  have HE := Lib.hid hE
  have HBI := Lib.hid hbi
  have HW2 := Lib.hid hW2
  have HFm := Lib.hid (And.intro fc (And.intro fd fx))
  have HPB := Lib.hid hPB
  have HPC := Lib.hid hPC
  clear hCo hRe hBl hEa hEb hE hbi hW2 fc fd fx hPB hPC
  go_enter Try.func9, Try.ntmps9
  go_upto_region 1 with fail
  refine of_world (fun W0 hW => ?_)
  have k0 : Kept None' w W0 := by rw [hW]; exact (((Kept.refl None' w).alloc _ _).alloc _ _).alloc _ _
  have a0 : W0.cell? ⟨w.heap.size, 0, none⟩ = some (.int .i64 Sa) := by rw [hW]; go_simp
  have a1 : W0.cell? ⟨w.heap.size, 1, none⟩ = some (.float .f32 loa) := by rw [hW]; go_simp
  have a2 : W0.cell? ⟨w.heap.size, 2, none⟩ = some (.float .f32 hia) := by rw [hW]; go_simp
  have a3 : W0.cell? ⟨w.heap.size, 3, none⟩ = some (.slice Aa na capa) := by rw [hW]; go_simp
  have b0 : W0.cell? ⟨w.heap.size + 1, 0, none⟩ = some (.int .i64 Sb) := by rw [hW]; go_simp
  have b1 : W0.cell? ⟨w.heap.size + 1, 1, none⟩ = some (.float .f32 lob) := by rw [hW]; go_simp
  have b2 : W0.cell? ⟨w.heap.size + 1, 2, none⟩ = some (.float .f32 hib) := by rw [hW]; go_simp
  have b3 : W0.cell? ⟨w.heap.size + 1, 3, none⟩ = some (.slice Ab nb capb) := by rw [hW]; go_simp
  have v0 : W0.cell? ⟨w.heap.size + 1 + 1, 0, none⟩ = some (.int .i64 N) := by rw [hW]; go_simp
  generalize w.heap.size + 1 + 1 = V at *
  generalize w.heap.size + 1 = U at *
  generalize w.heap.size = T at *
  have HB0 := Lib.hid (And.intro a0 (And.intro a1 (And.intro a2 (And.intro a3 (And.intro b0 (And.intro b1 (And.intro b2 (And.intro b3 v0))))))))
  have K0 := Lib.hid k0
  clear hW k0
  go_upto_region 2 with (go_at_call 58; refine (HCo.out _ K0.out).mono ?_; rintro e w1 ⟨c, rfl, hX, hk⟩)
  refine of_world (fun W1 hW => ?_)
  have k1 : Kept None' w1 W1 := by rw [hW]; exact (Kept.refl _ _).alloc _ _
  have hc1 : BxV w1.heap.size c W1 := by rw [hW]; exact ⟨by go_simp, by go_simp, by go_simp, by go_simp⟩
  have HX1 := Lib.hid (HFm.out.1 _ _ _ hX k1)
  have KA := Lib.hid (hk.trans k1)
  generalize w1.heap.size = C at *
  have HC1 := Lib.hid hc1
  clear hW hk k1 hX hc1 a0 a1 a2 a3 b0 b1 b2 b3 v0
  have a0 := KA.out.some HB0.out.1 id
  have a1 := KA.out.some HB0.out.2.1 id
  have a2 := KA.out.some HB0.out.2.2.1 id
  have a3 := KA.out.some HB0.out.2.2.2.1 id
  have v0 := KA.out.some HB0.out.2.2.2.2.2.2.2.2 id
  go_upto_region 3 with (go_at_call 59; refine (HRe.out _ (K0.out.trans KA.out)).mono ?_; rintro e w2 ⟨d, rfl, hX, hk⟩)
  refine of_world (fun Wd hW => ?_)
  have k2 : Kept None' w2 Wd := by rw [hW]; exact (Kept.refl _ _).alloc _ _
  have hd1 : BxV w2.heap.size d Wd := by rw [hW]; exact ⟨by go_simp, by go_simp, by go_simp, by go_simp⟩
  have HX2 := Lib.hid (HFm.out.2.1 _ _ _ hX k2)
  have KB := Lib.hid (hk.trans k2)
  generalize w2.heap.size = D at *
  have HD1 := Lib.hid hd1
  clear hW hk k2 hX hd1 a0 a1 a2 a3 v0
  have a0 := (KA.out.trans KB.out).some HB0.out.1 id
  have a1 := (KA.out.trans KB.out).some HB0.out.2.1 id
  have a2 := (KA.out.trans KB.out).some HB0.out.2.2.1 id
  have a3 := (KA.out.trans KB.out).some HB0.out.2.2.2.1 id
  have b0 := (KA.out.trans KB.out).some HB0.out.2.2.2.2.1 id
  have b1 := (KA.out.trans KB.out).some HB0.out.2.2.2.2.2.1 id
  have b2 := (KA.out.trans KB.out).some HB0.out.2.2.2.2.2.2.1 id
  have b3 := (KA.out.trans KB.out).some HB0.out.2.2.2.2.2.2.2.1 id
  go_upto_region 4 with (go_at_call 60; refine (HBl.out _ (K0.out.trans (KA.out.trans KB.out))).mono ?_; rintro e w3 ⟨x, rfl, hX, hk⟩)
  refine of_world (fun W3 hW => ?_)
  have k3 : Kept None' w3 W3 := by rw [hW]; exact (Kept.refl _ _).alloc _ _
  have hx1 : BxV w3.heap.size x W3 := by rw [hW]; exact ⟨by go_simp, by go_simp, by go_simp, by go_simp⟩
  have hX3 := HFm.out.2.2 _ _ _ hX k3
  have kc := hk.trans k3
  generalize w3.heap.size = X at *
  have kab := KA.out.trans (KB.out.trans kc)
  have hBB : CcB T U V C D X Sa Sb loa hia lob hib Aa Ab na capa nb capb N c d x W3 := ⟨kab.some HB0.out.1 id, kab.some HB0.out.2.1 id, kab.some HB0.out.2.2.1 id, kab.some HB0.out.2.2.2.1 id, kab.some HB0.out.2.2.2.2.1 id, kab.some HB0.out.2.2.2.2.2.1 id, kab.some HB0.out.2.2.2.2.2.2.1 id, kab.some HB0.out.2.2.2.2.2.2.2.1 id, kab.some HB0.out.2.2.2.2.2.2.2.2 id, HC1.out.step (KB.out.trans kc), HD1.out.step kc, hx1⟩
  have HXs := Lib.hid (And.intro (HFm.out.1 _ _ _ HX1.out (KB.out.trans kc)) (And.intro (HFm.out.2.1 _ _ _ HX2.out kc) hX3))
  have K3 := Lib.hid (K0.out.trans kab)
  have HB3 := Lib.hid hBB
  clear hW hk k3 hX hx1 a0 a1 a2 a3 b0 b1 b2 b3 hX3 kc kab hBB HX1 HX2 HC1 HD1 HB0 KA KB K0
  obtain ⟨a0, a1, a2, a3, b0, b1, b2, b3, v0, hc, hd, hx⟩ := HB3.out
  go_upto_region 6 with (first
    | (go_at_call 13; refine (cubeerror_any _ _ _ _ _ _ _ (by assumption)).mono ?_; first
        | (rw [HEa.out]; rintro e w4 ⟨rfl, hk⟩; have K4 := Lib.hid hk; obtain ⟨a0, a1, a2, a3, b0, b1, b2, b3, v0, hc, hd, hx⟩ := HB3.out.step hk; clear hk)
        | (rw [HEb.out]; rintro e w5 ⟨rfl, hk⟩; have K5 := Lib.hid (K4.out.trans hk); clear hk))
    | (go_at_call 12; refine (first2_any _ _ Ea Eb _ (by go_simp) (by go_simp)).mono ?_; rw [HE.out]; rintro e w' ⟨rfl, rfl⟩))
  refine of_world (fun W5 hW => ?_)
  have k5 : Kept None' W3 W5 := by rw [hW]; exact K5.out.alloc _ _
  have HB5 := Lib.hid (HB3.out.step k5)
  have HX5 := Lib.hid (And.intro (HFm.out.1 _ _ _ HXs.out.1 k5) (And.intro (HFm.out.2.1 _ _ _ HXs.out.2.1 k5) (HFm.out.2.2 _ _ _ HXs.out.2.2 k5)))
  have K5' := Lib.hid (K3.out.trans k5)
  clear hW k5 HXs HB3 K3 K4 a0 a1 a2 a3 b0 b1 b2 b3 v0 hc hd hx
  clear K5
  go_upto_region 8 with (go_at_call 16; refine (cubes_any _).mono ?_; rintro e w6 ⟨rfl, hk⟩; have HB6 := Lib.hid (HB5.out.step hk); have HX6 := Lib.hid (And.intro (HFm.out.1 _ _ _ HX5.out.1 hk) (And.intro (HFm.out.2.1 _ _ _ HX5.out.2.1 hk) (HFm.out.2.2 _ _ _ HX5.out.2.2 hk))); have K6 := Lib.hid (K5'.out.trans hk); clear hk)
  clear HB5 HX5 K5'
  obtain ⟨a0, a1, a2, a3, b0, b1, b2, b3, v0, hc, hd, hx⟩ := HB6.out
  obtain ⟨c0, c1, c2, c3⟩ := hc
  obtain ⟨d0, d1, d2, d3⟩ := hd
  obtain ⟨x0, x1, x2, x3⟩ := hx
  go_upto_region 8 with fail
  clear d0 d1 d2 d3
  rcases HPB.out with ⟨hE0, hec, hex, hc, hx⟩ | ⟨hE0, hs⟩ | ⟨hE0, hs, hec, hMo, hBl⟩
  · have hc := hc c w6 HX6.out.1
    have hx := hx x w6 HX6.out.2.2
    unfold ErP at hc hx
    subst hc hx
    have g1 : (E != 0) = true := by simp [hE0]
    have g2 : (ec != E) = false := by simp [hec]
    have g3 : (ex != E) = false := by simp [hex]
    clear hE0 hec hex
    go_upto_region 25 with (go_at_call 17; refine (nocube_zero _).mono ?_; first
      | (rintro e w8 ⟨rfl, hk8⟩; have K8 := Lib.hid (K7.out.trans hk8); clear hk8)
      | (rintro e w7 ⟨rfl, hk7⟩; have x0' := hk7.some x0 id; have x1' := hk7.some x1 id; have x2' := hk7.some x2 id; have x3' := hk7.some x3 id; have K7 := Lib.hid hk7; clear hk7))
    clear x0 x1 x2 x3 x0' x1' x2' x3' c0 c1 c2 c3
    have HB9 := Lib.hid (HB6.out.step K8.out)
    have HX9 := Lib.hid (HFm.out.2.1 _ _ _ HX6.out.2.1 K8.out)
    have K9 := Lib.hid (K6.out.trans K8.out)
    clear a0 a1 a2 a3 b0 b1 b2 b3 v0
    obtain ⟨a0, a1, a2, a3, b0, b1, b2, b3, v0, -, hd, -⟩ := HB9.out
    go_upto_region 26 with (first
      | (go_at_call 15; refine (in_one _ _ _ _).mono ?_; rintro e w' ⟨rfl, rfl⟩)
      | (go_at_call 14; refine (when_any _ _ _).mono ?_; rw [HBI.out]; rintro e w' ⟨rfl, rfl⟩)
      | (go_at_call 12; refine (first2_any _ _ Ea bi _ (by go_simp) (by go_simp)).mono ?_; rw [HW2.out]; rintro e w' ⟨rfl, rfl⟩))
    refine of_world (fun W10 hW => ?_)
    have k10 := (Kept.refl None' _).trans (show Kept None' w8 W10 by rw [hW]; exact (Kept.refl _ _).alloc _ _)
    have HB10 := Lib.hid (HB9.out.step k10)
    have HX10 := Lib.hid (HFm.out.2.1 _ _ _ HX9.out k10)
    have K10 := Lib.hid (K9.out.trans k10)
    clear hW k10 a0 a1 a2 a3 b0 b1 b2 b3 v0 hd HB9 HX9 K9
    obtain ⟨a0, a1, a2, a3, b0, b1, b2, b3, v0, -, ⟨d0, d1, d2, d3⟩, -⟩ := HB10.out
    rcases HPC.out with ⟨hE2, hed, hd⟩ | ⟨hE2, hed, nG, Gd, hd, hnG, hMd⟩
    · have hd := hd d W10 HX10.out
      unfold ErP at hd
      subst hd
      have g4 : (W2 != 0) = true := by simp [hE2]
      have g5 : (ed == W2) = true := by simp [hed]
      clear hE2 hed a0 a1 a2 a3 b0 b1 b2 b3 v0
      go_wp2_with (go_at_call 17; refine (nocube_zero _).mono ?_; rintro e w11 ⟨rfl, hk11⟩)
      go_ret
      exact ⟨rfl, K10.out.trans hk11⟩
    · obtain ⟨B, cp, hd, hcc⟩ := hd d W10 HX10.out
      subst hd
      have g4 : (W2 != 0) = false := by simp [hE2]
      have g5 : (ed == 0) = true := by simp [hed]
      have HCC := Lib.hid hcc
      have HMd := Lib.hid (fun (W : World) (hk : Kept None' W10 W) => hMd T V W (K10.out.trans hk) ⟨hk.some a0 id, hk.some a1 id, hk.some a2 id, hk.some a3 id⟩ (hk.some v0 id))
      clear hE2 hed hcc hMd a0 a3 b0 b1 b2 b3
      cases hN : decide (4 < N) with
      | true =>
        have A0 := ext_cell v0
        go_upto_region 28 with fail
        refine region_ext (by kernel_rfl) (by kernel_rfl) ?_
        repeat (first
          | go_big_quiet_skip
          | (go_big_quiet_want; go_big_quiet_op; first | go_big_quiet_on | go_big_quiet_call (first
            | (fail))))
        refine wpQuiet_nil ?_
        rintro _ ⟨xq, rfl⟩
        have K11 := Lib.hid (K10.out.trans (ext_kept _ xq))
        clear A0
        generalize ext _ xq = W11 at *
        go_wp2_with fail
        go_ret
        exact ⟨rfl, K11.out⟩
      | false =>
        go_upto_region 28 with fail
        have hS : cell7 W10 ⟨V, 0, none⟩ ⟨T, 1, none⟩ ⟨T, 2, none⟩ ⟨D, 0, none⟩ ⟨D, 1, none⟩ ⟨D, 2, none⟩ ⟨D, 3, none⟩ (.int .i64 N) (.float .f32 loa) (.float .f32 hia) (.int .i64 N) (.float .f32 loa) (.float .f32 hia) (.slice (some ⟨B, 0, none⟩) nG cp) W10 := ⟨Kept.refl _ _, v0, a1, a2, d0, d1, d2, d3⟩
        have HS := Lib.hid hS
        clear hS v0 a1 a2 d0 d1 d2 d3
        go_region_held3 (fun w' => Kept None' W10 w' ∧ w'.cell? ⟨V, 0, none⟩ = some (.int .i64 N) ∧ w'.cell? ⟨T, 1, none⟩ = some (.float .f32 loa) ∧ w'.cell? ⟨T, 2, none⟩ = some (.float .f32 hia) ∧ w'.cell? ⟨D, 0, none⟩ = some (.int .i64 N) ∧ w'.cell? ⟨D, 1, none⟩ = some (.float .f32 loa) ∧ w'.cell? ⟨D, 2, none⟩ = some (.float .f32 hia) ∧ w'.cell? ⟨D, 3, none⟩ = some (.slice (some ⟨B, 0, none⟩) nG cp))
          (first
            | with_reducible exact cell7_kept HS.out (kept_drew1 _)
            | with_reducible assumption
            | with_reducible exact cell7_kept (by assumption) (by assumption))
          (first
            | (go_simp; go_at_call 18; refine (HMd.out _ (And.left ‹_ ∧ _›)).mono ?_; rintro e w' ⟨B2, cap2, hB2, rfl, hcp, hcp2, hk, hz⟩)
            | (go_simp; go_at_call 22; refine (samecube_same N loa hia B 0 B2 0 nG _ _ Gd _ hnG (fun j hj => by rw [Nat.zero_add]; exact Kept.some (And.left ‹_ ∧ _›) (HCC.out j hj) id) (fun j hj => by rw [Nat.zero_add]; exact hz j hj)).mono ?_; rintro e w' ⟨rfl, hk⟩))
        all_goals
          go_wp2_with fail
          go_ret
          exact ⟨rfl, K10.out.trans (And.left ‹_ ∧ _›)⟩
  · have g1 : (E != 0) = false := by simp [hE0]
    clear hE0 c0 c1 c2 c3 x0 x1 x2 x3
    go_upto_region 25 with (go_at_call 61; refine (little_any _ _ _ _ _ _ _).mono ?_; rw [hs]; rintro e w7 ⟨rfl, hk7⟩)
    have K8 := Lib.hid hk7
    clear hk7
    have HB9 := Lib.hid (HB6.out.step K8.out)
    have HX9 := Lib.hid (HFm.out.2.1 _ _ _ HX6.out.2.1 K8.out)
    have K9 := Lib.hid (K6.out.trans K8.out)
    clear a0 a1 a2 a3 b0 b1 b2 b3 v0
    obtain ⟨a0, a1, a2, a3, b0, b1, b2, b3, v0, -, hd, -⟩ := HB9.out
    go_upto_region 26 with (first
      | (go_at_call 15; refine (in_one _ _ _ _).mono ?_; rintro e w' ⟨rfl, rfl⟩)
      | (go_at_call 14; refine (when_any _ _ _).mono ?_; rw [HBI.out]; rintro e w' ⟨rfl, rfl⟩)
      | (go_at_call 12; refine (first2_any _ _ Ea bi _ (by go_simp) (by go_simp)).mono ?_; rw [HW2.out]; rintro e w' ⟨rfl, rfl⟩))
    refine of_world (fun W10 hW => ?_)
    have k10 := (Kept.refl None' _).trans (show Kept None' w7 W10 by rw [hW]; exact (Kept.refl _ _).alloc _ _)
    have HB10 := Lib.hid (HB9.out.step k10)
    have HX10 := Lib.hid (HFm.out.2.1 _ _ _ HX9.out k10)
    have K10 := Lib.hid (K9.out.trans k10)
    clear hW k10 a0 a1 a2 a3 b0 b1 b2 b3 v0 hd HB9 HX9 K9
    obtain ⟨a0, a1, a2, a3, b0, b1, b2, b3, v0, -, ⟨d0, d1, d2, d3⟩, -⟩ := HB10.out
    rcases HPC.out with ⟨hE2, hed, hd⟩ | ⟨hE2, hed, nG, Gd, hd, hnG, hMd⟩
    · have hd := hd d W10 HX10.out
      unfold ErP at hd
      subst hd
      have g4 : (W2 != 0) = true := by simp [hE2]
      have g5 : (ed == W2) = true := by simp [hed]
      clear hE2 hed a0 a1 a2 a3 b0 b1 b2 b3 v0
      go_wp2_with (go_at_call 17; refine (nocube_zero _).mono ?_; rintro e w11 ⟨rfl, hk11⟩)
      go_ret
      exact ⟨rfl, K10.out.trans hk11⟩
    · obtain ⟨B, cp, hd, hcc⟩ := hd d W10 HX10.out
      subst hd
      have g4 : (W2 != 0) = false := by simp [hE2]
      have g5 : (ed == 0) = true := by simp [hed]
      have HCC := Lib.hid hcc
      have HMd := Lib.hid (fun (W : World) (hk : Kept None' W10 W) => hMd T V W (K10.out.trans hk) ⟨hk.some a0 id, hk.some a1 id, hk.some a2 id, hk.some a3 id⟩ (hk.some v0 id))
      clear hE2 hed hcc hMd a0 a3 b0 b1 b2 b3
      cases hN : decide (4 < N) with
      | true =>
        have A0 := ext_cell v0
        go_upto_region 28 with fail
        refine region_ext (by kernel_rfl) (by kernel_rfl) ?_
        repeat (first
          | go_big_quiet_skip
          | (go_big_quiet_want; go_big_quiet_op; first | go_big_quiet_on | go_big_quiet_call (first
            | (fail))))
        refine wpQuiet_nil ?_
        rintro _ ⟨xq, rfl⟩
        have K11 := Lib.hid (K10.out.trans (ext_kept _ xq))
        clear A0
        generalize ext _ xq = W11 at *
        go_wp2_with fail
        go_ret
        exact ⟨rfl, K11.out⟩
      | false =>
        go_upto_region 28 with fail
        have hS : cell7 W10 ⟨V, 0, none⟩ ⟨T, 1, none⟩ ⟨T, 2, none⟩ ⟨D, 0, none⟩ ⟨D, 1, none⟩ ⟨D, 2, none⟩ ⟨D, 3, none⟩ (.int .i64 N) (.float .f32 loa) (.float .f32 hia) (.int .i64 N) (.float .f32 loa) (.float .f32 hia) (.slice (some ⟨B, 0, none⟩) nG cp) W10 := ⟨Kept.refl _ _, v0, a1, a2, d0, d1, d2, d3⟩
        have HS := Lib.hid hS
        clear hS v0 a1 a2 d0 d1 d2 d3
        go_region_held3 (fun w' => Kept None' W10 w' ∧ w'.cell? ⟨V, 0, none⟩ = some (.int .i64 N) ∧ w'.cell? ⟨T, 1, none⟩ = some (.float .f32 loa) ∧ w'.cell? ⟨T, 2, none⟩ = some (.float .f32 hia) ∧ w'.cell? ⟨D, 0, none⟩ = some (.int .i64 N) ∧ w'.cell? ⟨D, 1, none⟩ = some (.float .f32 loa) ∧ w'.cell? ⟨D, 2, none⟩ = some (.float .f32 hia) ∧ w'.cell? ⟨D, 3, none⟩ = some (.slice (some ⟨B, 0, none⟩) nG cp))
          (first
            | with_reducible exact cell7_kept HS.out (kept_drew1 _)
            | with_reducible assumption
            | with_reducible exact cell7_kept (by assumption) (by assumption))
          (first
            | (go_simp; go_at_call 18; refine (HMd.out _ (And.left ‹_ ∧ _›)).mono ?_; rintro e w' ⟨B2, cap2, hB2, rfl, hcp, hcp2, hk, hz⟩)
            | (go_simp; go_at_call 22; refine (samecube_same N loa hia B 0 B2 0 nG _ _ Gd _ hnG (fun j hj => by rw [Nat.zero_add]; exact Kept.some (And.left ‹_ ∧ _›) (HCC.out j hj) id) (fun j hj => by rw [Nat.zero_add]; exact hz j hj)).mono ?_; rintro e w' ⟨rfl, hk⟩))
        all_goals
          go_wp2_with fail
          go_ret
          exact ⟨rfl, K10.out.trans (And.left ‹_ ∧ _›)⟩
  · obtain ⟨nG, Gc, hc, hnG, hMo⟩ := hMo
    have g1 : (E != 0) = false := by simp [hE0]
    have g5 : (ec != 0) = false := by simp [hec]
    have HBl := Lib.hid hBl
    have HX0 := Lib.hid (And.intro x0 (And.intro x1 (And.intro x2 x3)))
    clear hE0 hec hBl x0 x1 x2 x3 v0
    go_upto_region 12 with (go_at_call 61; refine (little_any _ _ _ _ _ _ _).mono ?_; rw [hs]; rintro e w7 ⟨rfl, hk7⟩)
    have K7 := Lib.hid hk7
    obtain ⟨B, cp, hc, hcc⟩ := hc c w7 (HFm.out.1 _ _ _ HX6.out.1 hk7)
    subst hc
    have HCC := Lib.hid hcc
    have HMo := Lib.hid (fun (W : World) (hk : Kept None' w7 W) => hMo T U W (K6.out.trans (hk7.trans hk)) ⟨(hk7.trans hk).some a0 id, (hk7.trans hk).some a1 id, (hk7.trans hk).some a2 id, (hk7.trans hk).some a3 id⟩ ⟨(hk7.trans hk).some b0 id, (hk7.trans hk).some b1 id, (hk7.trans hk).some b2 id, (hk7.trans hk).some b3 id⟩)
    have hS : cell7 w7 ⟨T, 0, none⟩ ⟨T, 1, none⟩ ⟨T, 2, none⟩ ⟨C, 0, none⟩ ⟨C, 1, none⟩ ⟨C, 2, none⟩ ⟨C, 3, none⟩ (.int .i64 Sa) (.float .f32 loa) (.float .f32 hia) (.int .i64 Sa) (.float .f32 loa) (.float .f32 hia) (.slice (some ⟨B, 0, none⟩) nG cp) w7 := ⟨Kept.refl _ _, hk7.some a0 id, hk7.some a1 id, hk7.some a2 id, hk7.some c0 id, hk7.some c1 id, hk7.some c2 id, hk7.some c3 id⟩
    have HS := Lib.hid hS
    clear hS hk7 hcc hMo a0 a1 a2 a3 b0 b1 b2 b3 c0 c1 c2 c3
    go_region_held3 (fun w' => Kept None' w7 w' ∧ w'.cell? ⟨T, 0, none⟩ = some (.int .i64 Sa) ∧ w'.cell? ⟨T, 1, none⟩ = some (.float .f32 loa) ∧ w'.cell? ⟨T, 2, none⟩ = some (.float .f32 hia) ∧ w'.cell? ⟨C, 0, none⟩ = some (.int .i64 Sa) ∧ w'.cell? ⟨C, 1, none⟩ = some (.float .f32 loa) ∧ w'.cell? ⟨C, 2, none⟩ = some (.float .f32 hia) ∧ w'.cell? ⟨C, 3, none⟩ = some (.slice (some ⟨B, 0, none⟩) nG cp))
      (first
        | with_reducible exact cell7_kept HS.out (kept_drew1 _)
        | with_reducible assumption
        | with_reducible exact cell7_kept (by assumption) (by assumption))
      (first
        | (go_simp; go_at_call 18; refine (HMo.out _ (And.left ‹_ ∧ _›)).mono ?_; rintro e w' ⟨B2, cap2, hB2, rfl, hcp, hcp2, hk, hz⟩)
        | (go_simp; go_at_call 22; refine (samecube_same Sa loa hia B 0 B2 0 nG _ _ Gc _ hnG (fun j hj => by rw [Nat.zero_add]; exact Kept.some (And.left ‹_ ∧ _›) (HCC.out j hj) id) (fun j hj => by rw [Nat.zero_add]; exact hz j hj)).mono ?_; rintro e w' ⟨rfl, hk⟩))
    go_upto_region 14 with fail
    refine of_kept (w0 := w7) (And.left ‹_ ∧ _›) (fun W9 hk9 => ?_)
    have k9 := K7.out.trans hk9
    obtain ⟨a0, a1, a2, a3, b0, b1, b2, b3, v0, -, -, ⟨x0, x1, x2, x3⟩⟩ := HB6.out.step k9
    have KX := Lib.hid k9
    rcases HBl.out with ⟨hs2, hex, hx⟩ | ⟨hs2, hex, hnn, hn0, hn4, ba, oa, bb, ob, za, zb, hAa, hAb, hca, hcb, hx⟩
    · have hx := hx x W9 (HFm.out.2.2 _ _ _ HX6.out.2.2 k9)
      unfold ErP at hx
      subst hx
      have g6 : (ex != 12) = false := by simp [hex]
      have h3 : (Sa != Sb) = true ∨ ((Sa != Sb) = false ∧ (FloatKind.f32.format.order loa lob != some .eq) = true) ∨ ((Sa != Sb) = false ∧ (FloatKind.f32.format.order loa lob != some .eq) = false ∧ (FloatKind.f32.format.order hia hib != some .eq) = true) := by
        unfold cu2S at hs2
        cases hS : (Sa != Sb) with
        | true => exact .inl rfl
        | false =>
          cases hl : (FloatKind.f32.format.order loa lob != some .eq) with
          | true => exact .inr (.inl ⟨rfl, rfl⟩)
          | false =>
            cases hh : (FloatKind.f32.format.order hia hib != some .eq) with
            | true => exact .inr (.inr ⟨rfl, rfl, rfl⟩)
            | false => rw [hS, hl, hh] at hs2; exact absurd hs2 (by decide)
      clear hex k9 hk9 hs2 HBl
      rcases h3 with h | ⟨h, h'⟩ | ⟨h, h', h''⟩
      · go_upto_region 25 with (go_at_call 17; refine (nocube_zero _).mono ?_; rintro e w8 ⟨rfl, hk8⟩; have K8 := Lib.hid (KX.out.trans hk8); clear hk8)
        clear x0 x1 x2 x3
        have HB9 := Lib.hid (HB6.out.step K8.out)
        have HX9 := Lib.hid (HFm.out.2.1 _ _ _ HX6.out.2.1 K8.out)
        have K9 := Lib.hid (K6.out.trans K8.out)
        clear a0 a1 a2 a3 b0 b1 b2 b3 v0
        obtain ⟨a0, a1, a2, a3, b0, b1, b2, b3, v0, -, hd, -⟩ := HB9.out
        go_upto_region 26 with (first
          | (go_at_call 15; refine (in_one _ _ _ _).mono ?_; rintro e w' ⟨rfl, rfl⟩)
          | (go_at_call 14; refine (when_any _ _ _).mono ?_; rw [HBI.out]; rintro e w' ⟨rfl, rfl⟩)
          | (go_at_call 12; refine (first2_any _ _ Ea bi _ (by go_simp) (by go_simp)).mono ?_; rw [HW2.out]; rintro e w' ⟨rfl, rfl⟩))
        refine of_world (fun W10 hW => ?_)
        have k10 := (Kept.refl None' _).trans (show Kept None' w8 W10 by rw [hW]; exact (Kept.refl _ _).alloc _ _)
        have HB10 := Lib.hid (HB9.out.step k10)
        have HX10 := Lib.hid (HFm.out.2.1 _ _ _ HX9.out k10)
        have K10 := Lib.hid (K9.out.trans k10)
        clear hW k10 a0 a1 a2 a3 b0 b1 b2 b3 v0 hd HB9 HX9 K9
        obtain ⟨a0, a1, a2, a3, b0, b1, b2, b3, v0, -, ⟨d0, d1, d2, d3⟩, -⟩ := HB10.out
        rcases HPC.out with ⟨hE2, hed, hd⟩ | ⟨hE2, hed, nG, Gd, hd, hnG, hMd⟩
        · have hd := hd d W10 HX10.out
          unfold ErP at hd
          subst hd
          have g4 : (W2 != 0) = true := by simp [hE2]
          have g5 : (ed == W2) = true := by simp [hed]
          clear hE2 hed a0 a1 a2 a3 b0 b1 b2 b3 v0
          go_wp2_with (go_at_call 17; refine (nocube_zero _).mono ?_; rintro e w11 ⟨rfl, hk11⟩)
          go_ret
          exact ⟨rfl, K10.out.trans hk11⟩
        · obtain ⟨B, cp, hd, hcc⟩ := hd d W10 HX10.out
          subst hd
          have g4 : (W2 != 0) = false := by simp [hE2]
          have g5 : (ed == 0) = true := by simp [hed]
          have HCC := Lib.hid hcc
          have HMd := Lib.hid (fun (W : World) (hk : Kept None' W10 W) => hMd T V W (K10.out.trans hk) ⟨hk.some a0 id, hk.some a1 id, hk.some a2 id, hk.some a3 id⟩ (hk.some v0 id))
          clear hE2 hed hcc hMd a0 a3 b0 b1 b2 b3
          cases hN : decide (4 < N) with
          | true =>
            have A0 := ext_cell v0
            go_upto_region 28 with fail
            refine region_ext (by kernel_rfl) (by kernel_rfl) ?_
            repeat (first
              | go_big_quiet_skip
              | (go_big_quiet_want; go_big_quiet_op; first | go_big_quiet_on | go_big_quiet_call (first
                | (fail))))
            refine wpQuiet_nil ?_
            rintro _ ⟨xq, rfl⟩
            have K11 := Lib.hid (K10.out.trans (ext_kept _ xq))
            clear A0
            generalize ext _ xq = W11 at *
            go_wp2_with fail
            go_ret
            exact ⟨rfl, K11.out⟩
          | false =>
            go_upto_region 28 with fail
            have hS : cell7 W10 ⟨V, 0, none⟩ ⟨T, 1, none⟩ ⟨T, 2, none⟩ ⟨D, 0, none⟩ ⟨D, 1, none⟩ ⟨D, 2, none⟩ ⟨D, 3, none⟩ (.int .i64 N) (.float .f32 loa) (.float .f32 hia) (.int .i64 N) (.float .f32 loa) (.float .f32 hia) (.slice (some ⟨B, 0, none⟩) nG cp) W10 := ⟨Kept.refl _ _, v0, a1, a2, d0, d1, d2, d3⟩
            have HS := Lib.hid hS
            clear hS v0 a1 a2 d0 d1 d2 d3
            go_region_held3 (fun w' => Kept None' W10 w' ∧ w'.cell? ⟨V, 0, none⟩ = some (.int .i64 N) ∧ w'.cell? ⟨T, 1, none⟩ = some (.float .f32 loa) ∧ w'.cell? ⟨T, 2, none⟩ = some (.float .f32 hia) ∧ w'.cell? ⟨D, 0, none⟩ = some (.int .i64 N) ∧ w'.cell? ⟨D, 1, none⟩ = some (.float .f32 loa) ∧ w'.cell? ⟨D, 2, none⟩ = some (.float .f32 hia) ∧ w'.cell? ⟨D, 3, none⟩ = some (.slice (some ⟨B, 0, none⟩) nG cp))
              (first
                | with_reducible exact cell7_kept HS.out (kept_drew1 _)
                | with_reducible assumption
                | with_reducible exact cell7_kept (by assumption) (by assumption))
              (first
                | (go_simp; go_at_call 18; refine (HMd.out _ (And.left ‹_ ∧ _›)).mono ?_; rintro e w' ⟨B2, cap2, hB2, rfl, hcp, hcp2, hk, hz⟩)
                | (go_simp; go_at_call 22; refine (samecube_same N loa hia B 0 B2 0 nG _ _ Gd _ hnG (fun j hj => by rw [Nat.zero_add]; exact Kept.some (And.left ‹_ ∧ _›) (HCC.out j hj) id) (fun j hj => by rw [Nat.zero_add]; exact hz j hj)).mono ?_; rintro e w' ⟨rfl, hk⟩))
            all_goals
              go_wp2_with fail
              go_ret
              exact ⟨rfl, K10.out.trans (And.left ‹_ ∧ _›)⟩
      · go_upto_region 25 with (go_at_call 17; refine (nocube_zero _).mono ?_; rintro e w8 ⟨rfl, hk8⟩; have K8 := Lib.hid (KX.out.trans hk8); clear hk8)
        clear x0 x1 x2 x3
        have HB9 := Lib.hid (HB6.out.step K8.out)
        have HX9 := Lib.hid (HFm.out.2.1 _ _ _ HX6.out.2.1 K8.out)
        have K9 := Lib.hid (K6.out.trans K8.out)
        clear a0 a1 a2 a3 b0 b1 b2 b3 v0
        obtain ⟨a0, a1, a2, a3, b0, b1, b2, b3, v0, -, hd, -⟩ := HB9.out
        go_upto_region 26 with (first
          | (go_at_call 15; refine (in_one _ _ _ _).mono ?_; rintro e w' ⟨rfl, rfl⟩)
          | (go_at_call 14; refine (when_any _ _ _).mono ?_; rw [HBI.out]; rintro e w' ⟨rfl, rfl⟩)
          | (go_at_call 12; refine (first2_any _ _ Ea bi _ (by go_simp) (by go_simp)).mono ?_; rw [HW2.out]; rintro e w' ⟨rfl, rfl⟩))
        refine of_world (fun W10 hW => ?_)
        have k10 := (Kept.refl None' _).trans (show Kept None' w8 W10 by rw [hW]; exact (Kept.refl _ _).alloc _ _)
        have HB10 := Lib.hid (HB9.out.step k10)
        have HX10 := Lib.hid (HFm.out.2.1 _ _ _ HX9.out k10)
        have K10 := Lib.hid (K9.out.trans k10)
        clear hW k10 a0 a1 a2 a3 b0 b1 b2 b3 v0 hd HB9 HX9 K9
        obtain ⟨a0, a1, a2, a3, b0, b1, b2, b3, v0, -, ⟨d0, d1, d2, d3⟩, -⟩ := HB10.out
        rcases HPC.out with ⟨hE2, hed, hd⟩ | ⟨hE2, hed, nG, Gd, hd, hnG, hMd⟩
        · have hd := hd d W10 HX10.out
          unfold ErP at hd
          subst hd
          have g4 : (W2 != 0) = true := by simp [hE2]
          have g5 : (ed == W2) = true := by simp [hed]
          clear hE2 hed a0 a1 a2 a3 b0 b1 b2 b3 v0
          go_wp2_with (go_at_call 17; refine (nocube_zero _).mono ?_; rintro e w11 ⟨rfl, hk11⟩)
          go_ret
          exact ⟨rfl, K10.out.trans hk11⟩
        · obtain ⟨B, cp, hd, hcc⟩ := hd d W10 HX10.out
          subst hd
          have g4 : (W2 != 0) = false := by simp [hE2]
          have g5 : (ed == 0) = true := by simp [hed]
          have HCC := Lib.hid hcc
          have HMd := Lib.hid (fun (W : World) (hk : Kept None' W10 W) => hMd T V W (K10.out.trans hk) ⟨hk.some a0 id, hk.some a1 id, hk.some a2 id, hk.some a3 id⟩ (hk.some v0 id))
          clear hE2 hed hcc hMd a0 a3 b0 b1 b2 b3
          cases hN : decide (4 < N) with
          | true =>
            have A0 := ext_cell v0
            go_upto_region 28 with fail
            refine region_ext (by kernel_rfl) (by kernel_rfl) ?_
            repeat (first
              | go_big_quiet_skip
              | (go_big_quiet_want; go_big_quiet_op; first | go_big_quiet_on | go_big_quiet_call (first
                | (fail))))
            refine wpQuiet_nil ?_
            rintro _ ⟨xq, rfl⟩
            have K11 := Lib.hid (K10.out.trans (ext_kept _ xq))
            clear A0
            generalize ext _ xq = W11 at *
            go_wp2_with fail
            go_ret
            exact ⟨rfl, K11.out⟩
          | false =>
            go_upto_region 28 with fail
            have hS : cell7 W10 ⟨V, 0, none⟩ ⟨T, 1, none⟩ ⟨T, 2, none⟩ ⟨D, 0, none⟩ ⟨D, 1, none⟩ ⟨D, 2, none⟩ ⟨D, 3, none⟩ (.int .i64 N) (.float .f32 loa) (.float .f32 hia) (.int .i64 N) (.float .f32 loa) (.float .f32 hia) (.slice (some ⟨B, 0, none⟩) nG cp) W10 := ⟨Kept.refl _ _, v0, a1, a2, d0, d1, d2, d3⟩
            have HS := Lib.hid hS
            clear hS v0 a1 a2 d0 d1 d2 d3
            go_region_held3 (fun w' => Kept None' W10 w' ∧ w'.cell? ⟨V, 0, none⟩ = some (.int .i64 N) ∧ w'.cell? ⟨T, 1, none⟩ = some (.float .f32 loa) ∧ w'.cell? ⟨T, 2, none⟩ = some (.float .f32 hia) ∧ w'.cell? ⟨D, 0, none⟩ = some (.int .i64 N) ∧ w'.cell? ⟨D, 1, none⟩ = some (.float .f32 loa) ∧ w'.cell? ⟨D, 2, none⟩ = some (.float .f32 hia) ∧ w'.cell? ⟨D, 3, none⟩ = some (.slice (some ⟨B, 0, none⟩) nG cp))
              (first
                | with_reducible exact cell7_kept HS.out (kept_drew1 _)
                | with_reducible assumption
                | with_reducible exact cell7_kept (by assumption) (by assumption))
              (first
                | (go_simp; go_at_call 18; refine (HMd.out _ (And.left ‹_ ∧ _›)).mono ?_; rintro e w' ⟨B2, cap2, hB2, rfl, hcp, hcp2, hk, hz⟩)
                | (go_simp; go_at_call 22; refine (samecube_same N loa hia B 0 B2 0 nG _ _ Gd _ hnG (fun j hj => by rw [Nat.zero_add]; exact Kept.some (And.left ‹_ ∧ _›) (HCC.out j hj) id) (fun j hj => by rw [Nat.zero_add]; exact hz j hj)).mono ?_; rintro e w' ⟨rfl, hk⟩))
            all_goals
              go_wp2_with fail
              go_ret
              exact ⟨rfl, K10.out.trans (And.left ‹_ ∧ _›)⟩
      · go_upto_region 25 with (go_at_call 17; refine (nocube_zero _).mono ?_; rintro e w8 ⟨rfl, hk8⟩; have K8 := Lib.hid (KX.out.trans hk8); clear hk8)
        clear x0 x1 x2 x3
        have HB9 := Lib.hid (HB6.out.step K8.out)
        have HX9 := Lib.hid (HFm.out.2.1 _ _ _ HX6.out.2.1 K8.out)
        have K9 := Lib.hid (K6.out.trans K8.out)
        clear a0 a1 a2 a3 b0 b1 b2 b3 v0
        obtain ⟨a0, a1, a2, a3, b0, b1, b2, b3, v0, -, hd, -⟩ := HB9.out
        go_upto_region 26 with (first
          | (go_at_call 15; refine (in_one _ _ _ _).mono ?_; rintro e w' ⟨rfl, rfl⟩)
          | (go_at_call 14; refine (when_any _ _ _).mono ?_; rw [HBI.out]; rintro e w' ⟨rfl, rfl⟩)
          | (go_at_call 12; refine (first2_any _ _ Ea bi _ (by go_simp) (by go_simp)).mono ?_; rw [HW2.out]; rintro e w' ⟨rfl, rfl⟩))
        refine of_world (fun W10 hW => ?_)
        have k10 := (Kept.refl None' _).trans (show Kept None' w8 W10 by rw [hW]; exact (Kept.refl _ _).alloc _ _)
        have HB10 := Lib.hid (HB9.out.step k10)
        have HX10 := Lib.hid (HFm.out.2.1 _ _ _ HX9.out k10)
        have K10 := Lib.hid (K9.out.trans k10)
        clear hW k10 a0 a1 a2 a3 b0 b1 b2 b3 v0 hd HB9 HX9 K9
        obtain ⟨a0, a1, a2, a3, b0, b1, b2, b3, v0, -, ⟨d0, d1, d2, d3⟩, -⟩ := HB10.out
        rcases HPC.out with ⟨hE2, hed, hd⟩ | ⟨hE2, hed, nG, Gd, hd, hnG, hMd⟩
        · have hd := hd d W10 HX10.out
          unfold ErP at hd
          subst hd
          have g4 : (W2 != 0) = true := by simp [hE2]
          have g5 : (ed == W2) = true := by simp [hed]
          clear hE2 hed a0 a1 a2 a3 b0 b1 b2 b3 v0
          go_wp2_with (go_at_call 17; refine (nocube_zero _).mono ?_; rintro e w11 ⟨rfl, hk11⟩)
          go_ret
          exact ⟨rfl, K10.out.trans hk11⟩
        · obtain ⟨B, cp, hd, hcc⟩ := hd d W10 HX10.out
          subst hd
          have g4 : (W2 != 0) = false := by simp [hE2]
          have g5 : (ed == 0) = true := by simp [hed]
          have HCC := Lib.hid hcc
          have HMd := Lib.hid (fun (W : World) (hk : Kept None' W10 W) => hMd T V W (K10.out.trans hk) ⟨hk.some a0 id, hk.some a1 id, hk.some a2 id, hk.some a3 id⟩ (hk.some v0 id))
          clear hE2 hed hcc hMd a0 a3 b0 b1 b2 b3
          cases hN : decide (4 < N) with
          | true =>
            have A0 := ext_cell v0
            go_upto_region 28 with fail
            refine region_ext (by kernel_rfl) (by kernel_rfl) ?_
            repeat (first
              | go_big_quiet_skip
              | (go_big_quiet_want; go_big_quiet_op; first | go_big_quiet_on | go_big_quiet_call (first
                | (fail))))
            refine wpQuiet_nil ?_
            rintro _ ⟨xq, rfl⟩
            have K11 := Lib.hid (K10.out.trans (ext_kept _ xq))
            clear A0
            generalize ext _ xq = W11 at *
            go_wp2_with fail
            go_ret
            exact ⟨rfl, K11.out⟩
          | false =>
            go_upto_region 28 with fail
            have hS : cell7 W10 ⟨V, 0, none⟩ ⟨T, 1, none⟩ ⟨T, 2, none⟩ ⟨D, 0, none⟩ ⟨D, 1, none⟩ ⟨D, 2, none⟩ ⟨D, 3, none⟩ (.int .i64 N) (.float .f32 loa) (.float .f32 hia) (.int .i64 N) (.float .f32 loa) (.float .f32 hia) (.slice (some ⟨B, 0, none⟩) nG cp) W10 := ⟨Kept.refl _ _, v0, a1, a2, d0, d1, d2, d3⟩
            have HS := Lib.hid hS
            clear hS v0 a1 a2 d0 d1 d2 d3
            go_region_held3 (fun w' => Kept None' W10 w' ∧ w'.cell? ⟨V, 0, none⟩ = some (.int .i64 N) ∧ w'.cell? ⟨T, 1, none⟩ = some (.float .f32 loa) ∧ w'.cell? ⟨T, 2, none⟩ = some (.float .f32 hia) ∧ w'.cell? ⟨D, 0, none⟩ = some (.int .i64 N) ∧ w'.cell? ⟨D, 1, none⟩ = some (.float .f32 loa) ∧ w'.cell? ⟨D, 2, none⟩ = some (.float .f32 hia) ∧ w'.cell? ⟨D, 3, none⟩ = some (.slice (some ⟨B, 0, none⟩) nG cp))
              (first
                | with_reducible exact cell7_kept HS.out (kept_drew1 _)
                | with_reducible assumption
                | with_reducible exact cell7_kept (by assumption) (by assumption))
              (first
                | (go_simp; go_at_call 18; refine (HMd.out _ (And.left ‹_ ∧ _›)).mono ?_; rintro e w' ⟨B2, cap2, hB2, rfl, hcp, hcp2, hk, hz⟩)
                | (go_simp; go_at_call 22; refine (samecube_same N loa hia B 0 B2 0 nG _ _ Gd _ hnG (fun j hj => by rw [Nat.zero_add]; exact Kept.some (And.left ‹_ ∧ _›) (HCC.out j hj) id) (fun j hj => by rw [Nat.zero_add]; exact hz j hj)).mono ?_; rintro e w' ⟨rfl, hk⟩))
            all_goals
              go_wp2_with fail
              go_ret
              exact ⟨rfl, K10.out.trans (And.left ‹_ ∧ _›)⟩
    · have hx := hx x W9 (HFm.out.2.2 _ _ _ HX6.out.2.2 k9)
      obtain ⟨Bx, cx, hx, hxc⟩ := hx
      subst hx
      subst hnn
      subst hAa hAb
      unfold cu2S at hs2
      simp only [Bool.and_eq_true, Bool.not_eq_true'] at hs2
      obtain ⟨hS, hl, hh⟩ := hs2
      have g6 : (ex != 0) = false := by simp [hex]
      have KW9 := K6.out.trans k9
      have HXC := Lib.hid hxc
      have HCA := Lib.hid (fun j hj => KW9.some (hca j hj) id)
      have HCB := Lib.hid (fun j hj => KW9.some (hcb j hj) id)
      have HAX := Lib.hid (And.intro a3 (And.intro b3 (And.intro x0 (And.intro x1 (And.intro x2 x3)))))
      have l9 : T < W9.heap.size := cell_lt a0
      clear hex k9 hk9 HBl hxc hca hcb KW9 x0 x1 x2 x3 v0
      go_upto_region 18 with fail
      refine of_world (fun Wy hW => ?_)
      obtain ⟨G, hG⟩ : ∃ G : Nat → Nat, ∀ j, G j = lerpP (za j) (zb j) t := ⟨_, fun _ => rfl⟩
      have hS0 : CbS W9 W9.heap.size Sa loa hia (.slice none 0 0) 0 G Wy := by
        rw [hW]
        exact ⟨(Kept.refl _ _).alloc _ _, Nat.le_refl _, by simp, cell_alloc_one W9 _ _ 0, cell_alloc_one W9 _ _ 1, cell_alloc_one W9 _ _ 2, cell_alloc_one W9 _ _ 3, fun a ha => (frozen?_alloc_cells _ _ _ _).trans (frozen_new _ _ ha), World.ownsRow_nil _ _ _ _⟩
      have HS0 := Lib.hid hS0
      have HG := Lib.hid hG
      have a3 := hS0.kept.some a3 id
      generalize hY : W9.heap.size = Y at *
      have HY := Lib.hid hY
      clear hW hS0 hG hY a0 a1 a2 b0 b1 b2 b3 hS hl hh
      go_wp2_with fail
      go_loopw [121] (fun s121 wr => ∃ (m : Nat) (vv : Value), m ≤ na ∧ s121 = .int .i64 (m : Int) ∧ CbS W9 Y Sa loa hia vv m G wr) (fun s121 _ => (na - intOf s121).toNat)
      case atStart => exact ⟨0, _, by omega, rfl, HS0.out⟩
      case round =>
        obtain ⟨m, vv, hm, rfl, hS⟩ := hrel
        have HS := Lib.hid hS
        by_cases hlt : m < na
        · have d1 : decide ((m : Int) < (na : Int)) = true := decide_eq_true (by omega)
          have e0 : 0 ≤ (m : Int) := by omega
          have e1 : (m : Int) < (na : Int) := by omega
          have p3 := hS.kept.some HAX.out.1 id
          have q3 := hS.kept.some HAX.out.2.1 id
          have za' := hS.kept.some (HCA.out m hlt) id
          have zb' := hS.kept.some (HCB.out m hlt) id
          have y3 := hS.c3
          have f3 := hS.fz ⟨Y, 3, none⟩ hS.lF
          have l4 : Y < wr.heap.size := cell_lt y3
          obtain ⟨i0, hi0, hz0, hz1, hz2⟩ := info_parts float_info
          clear hS
          go_upto_region 21 with fail
          go_region_law (first
            | (refine step_append_kept _ (by rfl) _ _ _ (by rfl) (Y + 1) 22 i0 _ 1 4 Try.underlying23 hi0 hz0 hz1 hz2 rfl (by omega) vv m ((List.range m).map fun j => .float .f32 (G j)) (by rfl)
                (own_kept HS.out.own (kk.alloc _ _)) ⟨w'.heap.size, 0, none⟩ 1 1 [.float .f32 (lerpP (za m) (zb m) t)] (by rfl) rfl (news_one (cell_alloc_one w' _ _ 0)) (by simp [Value.oneCell']) (by omega) (by unfold maxLen; omega) (by omega) (by have := HS.out.sz; have := kk.size; simp; omega) ?_
               intro g4 cap4 w5 hown4 hk4 hat4
               have e4 := HS.out.app_cell (kk.alloc _ _) hk4
               have e5 := HS.out.app_frozen (kk.alloc _ _) hk4)
            | (go_simp; go_at_call 63; refine (lerpof_k _ _ _ _).mono ?_; rintro e w' ⟨rfl, hk⟩; have kk := (kept_drew1 wr).trans hk; have y3' := kk.some y3 id; have y4' := fun c t => ((Kept.refl None' w').alloc c t).some y3' id; have l5 := cell_lt y3'; have f3' := (kk.frozen ⟨Y, 3, none⟩).trans f3))
          all_goals
            go_wp2_with fail
            go_roundw
            case rel =>
              refine ⟨m + 1, .slice (some ⟨g4, 0, none⟩) (m + 1) cap4, by omega, by go_num, HS.out.app (kk.alloc _ _) hk4 ?_⟩
              rw [List.range_succ, List.map_append, show [m].map (fun j => Value.float .f32 (G j)) = [.float .f32 (lerpP (za m) (zb m) t)] by rw [← HG.out m]; rfl]
              exact hown4
            case measure => simp [intOf]; omega
        · obtain rfl : m = na := by omega
          have d1 : decide ((m : Int) < (m : Int)) = false := by simp
          obtain ⟨By, cy, rfl, hBy, -, -, hcy⟩ := hS.slice hn0
          have y0 := hS.c0
          have y1 := hS.c1
          have y2 := hS.c2
          have y3 := hS.c3
          have x0 := hS.kept.some HAX.out.2.2.1 id
          have x1 := hS.kept.some HAX.out.2.2.2.1 id
          have x2 := hS.kept.some HAX.out.2.2.2.2.1 id
          have x3 := hS.kept.some HAX.out.2.2.2.2.2 id
          have hxg : ∀ j, j < m → wr.cell? ⟨Bx, 0 + j, none⟩ = some (.float .f32 (G j)) := fun j hj => by rw [Nat.zero_add, HG.out]; exact hS.kept.some (HXC.out j hj) id
          have hyg : ∀ j, j < m → wr.cell? ⟨By, 0 + j, none⟩ = some (.float .f32 (G j)) := fun j hj => by rw [Nat.zero_add]; exact hcy j hj
          have HXY := Lib.hid (And.intro hxg hyg)
          have KR := Lib.hid (KX.out.trans hS.kept)
          clear hS hcy hxg hyg hBy
          go_upto_region 25 with (go_at_call 22; refine (samecube_same Sa loa hia Bx 0 By 0 m _ _ G _ (by omega) HXY.out.1 HXY.out.2).mono ?_; rintro e w8 ⟨rfl, hk8⟩; have K8 := Lib.hid (KR.out.trans hk8); clear hk8)
          have a0 : True := trivial
          have a1 : True := trivial
          have a2 : True := trivial
          have b0 : True := trivial
          have b1 : True := trivial
          have b2 : True := trivial
          have b3 : True := trivial
          have v0 : True := trivial
          clear y0 y1 y2 y3 x0 x1 x2 x3
          have HB9 := Lib.hid (HB6.out.step K8.out)
          have HX9 := Lib.hid (HFm.out.2.1 _ _ _ HX6.out.2.1 K8.out)
          have K9 := Lib.hid (K6.out.trans K8.out)
          clear a0 a1 a2 a3 b0 b1 b2 b3 v0
          obtain ⟨a0, a1, a2, a3, b0, b1, b2, b3, v0, -, hd, -⟩ := HB9.out
          go_upto_region 26 with (first
            | (go_at_call 15; refine (in_one _ _ _ _).mono ?_; rintro e w' ⟨rfl, rfl⟩)
            | (go_at_call 14; refine (when_any _ _ _).mono ?_; rw [HBI.out]; rintro e w' ⟨rfl, rfl⟩)
            | (go_at_call 12; refine (first2_any _ _ Ea bi _ (by go_simp) (by go_simp)).mono ?_; rw [HW2.out]; rintro e w' ⟨rfl, rfl⟩))
          refine of_world (fun W10 hW => ?_)
          have k10 := (Kept.refl None' _).trans (show Kept None' w8 W10 by rw [hW]; exact (Kept.refl _ _).alloc _ _)
          have HB10 := Lib.hid (HB9.out.step k10)
          have HX10 := Lib.hid (HFm.out.2.1 _ _ _ HX9.out k10)
          have K10 := Lib.hid (K9.out.trans k10)
          clear hW k10 a0 a1 a2 a3 b0 b1 b2 b3 v0 hd HB9 HX9 K9
          obtain ⟨a0, a1, a2, a3, b0, b1, b2, b3, v0, -, ⟨d0, d1, d2, d3⟩, -⟩ := HB10.out
          rcases HPC.out with ⟨hE2, hed, hd⟩ | ⟨hE2, hed, nG, Gd, hd, hnG, hMd⟩
          · have hd := hd d W10 HX10.out
            unfold ErP at hd
            subst hd
            have g4 : (W2 != 0) = true := by simp [hE2]
            have g5 : (ed == W2) = true := by simp [hed]
            clear hE2 hed a0 a1 a2 a3 b0 b1 b2 b3 v0
            go_wp2_with (go_at_call 17; refine (nocube_zero _).mono ?_; rintro e w11 ⟨rfl, hk11⟩)
            go_ret
            exact ⟨rfl, K10.out.trans hk11⟩
          · obtain ⟨B, cp, hd, hcc⟩ := hd d W10 HX10.out
            subst hd
            have g4 : (W2 != 0) = false := by simp [hE2]
            have g5 : (ed == 0) = true := by simp [hed]
            have HCC := Lib.hid hcc
            have HMd := Lib.hid (fun (W : World) (hk : Kept None' W10 W) => hMd T V W (K10.out.trans hk) ⟨hk.some a0 id, hk.some a1 id, hk.some a2 id, hk.some a3 id⟩ (hk.some v0 id))
            clear hE2 hed hcc hMd a0 a3 b0 b1 b2 b3
            cases hN : decide (4 < N) with
            | true =>
              have A0 := ext_cell v0
              go_upto_region 28 with fail
              refine region_ext (by kernel_rfl) (by kernel_rfl) ?_
              repeat (first
                | go_big_quiet_skip
                | (go_big_quiet_want; go_big_quiet_op; first | go_big_quiet_on | go_big_quiet_call (first
                  | (fail))))
              refine wpQuiet_nil ?_
              rintro _ ⟨xq, rfl⟩
              have K11 := Lib.hid (K10.out.trans (ext_kept _ xq))
              clear A0
              generalize ext _ xq = W11 at *
              go_wp2_with fail
              go_ret
              exact ⟨rfl, K11.out⟩
            | false =>
              go_upto_region 28 with fail
              have hS : cell7 W10 ⟨V, 0, none⟩ ⟨T, 1, none⟩ ⟨T, 2, none⟩ ⟨D, 0, none⟩ ⟨D, 1, none⟩ ⟨D, 2, none⟩ ⟨D, 3, none⟩ (.int .i64 N) (.float .f32 loa) (.float .f32 hia) (.int .i64 N) (.float .f32 loa) (.float .f32 hia) (.slice (some ⟨B, 0, none⟩) nG cp) W10 := ⟨Kept.refl _ _, v0, a1, a2, d0, d1, d2, d3⟩
              have HS := Lib.hid hS
              clear hS v0 a1 a2 d0 d1 d2 d3
              go_region_held3 (fun w' => Kept None' W10 w' ∧ w'.cell? ⟨V, 0, none⟩ = some (.int .i64 N) ∧ w'.cell? ⟨T, 1, none⟩ = some (.float .f32 loa) ∧ w'.cell? ⟨T, 2, none⟩ = some (.float .f32 hia) ∧ w'.cell? ⟨D, 0, none⟩ = some (.int .i64 N) ∧ w'.cell? ⟨D, 1, none⟩ = some (.float .f32 loa) ∧ w'.cell? ⟨D, 2, none⟩ = some (.float .f32 hia) ∧ w'.cell? ⟨D, 3, none⟩ = some (.slice (some ⟨B, 0, none⟩) nG cp))
                (first
                  | with_reducible exact cell7_kept HS.out (kept_drew1 _)
                  | with_reducible assumption
                  | with_reducible exact cell7_kept (by assumption) (by assumption))
                (first
                  | (go_simp; go_at_call 18; refine (HMd.out _ (And.left ‹_ ∧ _›)).mono ?_; rintro e w' ⟨B2, cap2, hB2, rfl, hcp, hcp2, hk, hz⟩)
                  | (go_simp; go_at_call 22; refine (samecube_same N loa hia B 0 B2 0 nG _ _ Gd _ hnG (fun j hj => by rw [Nat.zero_add]; exact Kept.some (And.left ‹_ ∧ _›) (HCC.out j hj) id) (fun j hj => by rw [Nat.zero_add]; exact hz j hj)).mono ?_; rintro e w' ⟨rfl, hk⟩))
              all_goals
                go_wp2_with fail
                go_ret
                exact ⟨rfl, K10.out.trans (And.left ‹_ ∧ _›)⟩

theorem rs_all (Sa : Int) (loa hia : Nat) (Aa : Option Addr) (na capa : Nat) (za : Nat → Nat) (N : Int) (w : World) (Ea bi W2 : Int) (hna : na ≤ 9223372036854775807) (hEa : cuE Sa loa hia na = Ea) (hbi : (if (!inB N 2 17) = true then (3 : Int) else 0) = bi) (hW2 : (if Ea ≠ 0 then Ea else bi) = W2)
    (hcap : na ≤ capa) (hr : Rd w Aa na (fun i => .float .f32 (za i))) :
    ∃ (Xd : CuV → World → Prop) (ed : Int), Firm Xd ∧ (∀ w', Kept None' w w' → Calls Try.prog 59 #[.agg #[.int .i64 Sa, .float .f32 loa, .float .f32 hia, .slice Aa na capa], .int .i64 N] w' (CuRes Xd ed w')) ∧ ((¬ W2 = 0 ∧ ed = W2 ∧ (∀ c W, Xd c W → ErP c)) ∨ (W2 = 0 ∧ ed = 0 ∧ ∃ (nG : Nat) (Gd : Nat → Nat), (∀ c W, Xd c W → OkP N loa hia nG Gd c W) ∧ nG ≤ 65536 ∧ ∀ (T U : Nat) (W : World), Kept None' w W → BxV T ⟨Sa, loa, hia, Aa, na, capa⟩ W → W.cell? ⟨U, 0, none⟩ = some (.int .i64 N) → Calls Try.prog 18 #[.int .i64 N, .float .f32 loa, .float .f32 hia, .func (.func 64) #[] #[.pointer (some ⟨T, 0, none⟩), .pointer (some ⟨U, 0, none⟩)]] W (CuMade N loa hia nG Gd W))) := by
  by_cases hW : W2 = 0
  · have ha : Ea = 0 := Decidable.byContradiction fun h => by rw [if_pos h] at hW2; exact h (hW2.trans hW)
    subst ha
    have hb : bi = 0 := by rw [if_neg (by omega)] at hW2; omega
    have hI : inB N 2 17 = true := by
      cases h : inB N 2 17 with
      | true => rfl
      | false => rw [h] at hbi; simp at hbi; omega
    obtain ⟨n1, n2⟩ := inB_iff.1 hI
    obtain ⟨n, rfl⟩ : ∃ n : Nat, N = n := ⟨N.toNat, by omega⟩
    obtain ⟨s, rfl, s1, s2, hn', hn3, -⟩ := cuE_nat hEa
    obtain ⟨b, o, rfl, hc⟩ := hr (by rw [hn3]; exact Nat.mul_pos (by omega) (Nat.mul_pos (by omega) (Nat.mul_pos (by omega) (by omega))))
    refine ⟨OkP (n : Int) loa hia (3 * (n * (n * n))) (cubG (rsF (entE za s) s n loa hia) n), 0, firm_ok _ _ _ _ _, fun w' hk => ?_, .inr ⟨hW, rfl, 3 * (n * (n * n)), cubG (rsF (entE za s) s n loa hia) n, fun _ _ h => h, ?_, fun T U W hk hT hU => ?_⟩⟩
    · exact (resize_ok s n loa hia b o na capa za w' hEa (by omega) (by omega) (fun q hq => hk.some (hc q hq) id) hcap).mono fun _ _ h => cuPost_res h
    · have := (cube_nat (S := n) (by omega)).2; omega
    · exact madeof_gen n loa hia 64 _ _ W (by omega) (by omega) Try.call64 (ccompose2_gives s n loa hia b o na capa T U za W hEa (by omega) (by omega) (fun q hq => hk.some (hc q hq) id) hcap ⟨hT.c0, hT.c1, hT.c2, hT.c3⟩ hU)
  · refine ⟨fun c _ => ErP c, W2, firm_er, fun w' _ => ?_, .inl ⟨hW, rfl, fun _ _ h => h⟩⟩
    refine (resize_err Sa loa hia Aa na capa N w' Ea W2 hna hEa ?_ hW).mono fun _ _ h => cuErr_res h
    rw [hbi]; exact hW2

theorem walk_cubesCompose (Sa : Int) (loa hia : Nat) (Aa : Option Addr) (na capa : Nat) (za : Nat → Nat) (Sb : Int) (lob hib : Nat) (Ab : Option Addr) (nb capb : Nat) (zb : Nat → Nat) (N : Int) (t : Nat) (w : World)
    (_ : (Lit.int .i64 Sa).wf = true) (hcapa : na ≤ capa) (hcapa2 : capa ≤ maxLen) (hra : Rd w Aa na (fun i => .float .f32 (za i))) (_ : ∀ i, (Lit.float .f32 (za i)).wf = true)
    (_ : (Lit.int .i64 Sb).wf = true) (hcapb : nb ≤ capb) (hcapb2 : capb ≤ maxLen) (hrb : Rd w Ab nb (fun i => .float .f32 (zb i))) (_ : ∀ i, (Lit.float .f32 (zb i)).wf = true) (_ : (Lit.int .i64 N).wf = true) :
    Calls Try.prog 9 #[.agg #[.int .i64 Sa, .float .f32 loa, .float .f32 hia, .slice Aa na capa], .agg #[.int .i64 Sb, .float .f32 lob, .float .f32 hib, .slice Ab nb capb], .int .i64 N, .float .f32 t] w fun e w' => e = .returned (.bool true) ∧ Kept None' w w' := by
  have hna : na ≤ 9223372036854775807 := by unfold maxLen at hcapa2; omega
  have hnb : nb ≤ 9223372036854775807 := by unfold maxLen at hcapb2; omega
  obtain ⟨Ea, hEa⟩ : ∃ E, cuE Sa loa hia na = E := ⟨_, rfl⟩
  obtain ⟨Eb, hEb⟩ : ∃ E, cuE Sb lob hib nb = E := ⟨_, rfl⟩
  obtain ⟨bi, hbi⟩ : ∃ b, (if (!inB N 2 17) = true then (3 : Int) else 0) = b := ⟨_, rfl⟩
  obtain ⟨Xd, ed, fd, hRe, hPC⟩ := rs_all Sa loa hia Aa na capa za N w Ea bi _ hna hEa hbi rfl hcapa hra
  by_cases hE : (if Ea ≠ 0 then Ea else Eb) = 0
  · have ha : Ea = 0 := Decidable.byContradiction fun h => by rw [if_pos h] at hE; exact h hE
    have hb : Eb = 0 := by rw [if_neg (by omega)] at hE; exact hE
    subst ha hb
    obtain ⟨s, rfl, s1, s2, hsn, hsn3, hs4⟩ := cuE_nat hEa
    obtain ⟨u, rfl, u1, u2, hun, hun3, hu4⟩ := cuE_nat hEb
    have hpa : 0 < na := by rw [hsn3]; exact Nat.mul_pos (by omega) (Nat.mul_pos (by omega) (Nat.mul_pos (by omega) (by omega)))
    obtain ⟨ba, oa, rfl, hca⟩ := hra hpa
    obtain ⟨bb, ob, rfl, hcb⟩ := hrb (by rw [hun3]; exact Nat.mul_pos (by omega) (Nat.mul_pos (by omega) (Nat.mul_pos (by omega) (by omega))))
    have hCo := fun w' (hk : Kept None' w w') => (compose_ok s u loa hia ba oa na capa lob hib bb ob nb capb za zb w' hEa hEb (fun q hq => hk.some (hca q hq) id) hcapa (fun q hq => hk.some (hcb q hq) id) hcapb).mono fun _ _ h => cuPost_res h
    have hMo : ∀ (T U : Nat) (W : World), Kept None' w W → BxV T ⟨s, loa, hia, some ⟨ba, oa, none⟩, na, capa⟩ W → BxV U ⟨u, lob, hib, some ⟨bb, ob, none⟩, nb, capb⟩ W → Calls Try.prog 18 #[.int .i64 (s : Int), .float .f32 loa, .float .f32 hia, .func (.func 62) #[] #[.pointer (some ⟨T, 0, none⟩), .pointer (some ⟨U, 0, none⟩)]] W (CuMade s loa hia (3 * (s * (s * s))) (cubG (cmF (entE za s) (entE zb u) u lob hib) s) W) := fun T U W hk hT hU =>
      madeof_gen s loa hia 62 _ _ W (by omega) (by omega) Try.call62 (ccompose1_gives s u loa hia ba oa na capa lob hib bb ob nb capb T U za zb W hsn hun s1 s2 u1 u2 (fun q hq => hk.some (hca q hq) id) hcapa (fun q hq => hk.some (hcb q hq) id) hcapb ⟨hT.c0, hT.c1, hT.c2, hT.c3⟩ ⟨hU.c0, hU.c1, hU.c2, hU.c3⟩)
    have hnG : 3 * (s * (s * s)) ≤ 65536 := by omega
    have hPB : ∀ (ex : Int) (Xx : CuV → World → Prop), ((cu2S s loa hia u lob hib = false ∧ ex = 12 ∧ ∀ c W, Xx c W → ErP c) ∨ (cu2S s loa hia u lob hib = true ∧ ex = 0 ∧ na = nb ∧ 0 < na ∧ na ≤ 14739 ∧ ∃ (ba' oa' bb' ob' : Nat) (za' zb' : Nat → Nat), some (⟨ba, oa, none⟩ : Addr) = some ⟨ba', oa', none⟩ ∧ some (⟨bb, ob, none⟩ : Addr) = some ⟨bb', ob', none⟩ ∧ (∀ j, j < na → w.cell? ⟨ba', oa' + j, none⟩ = some (.float .f32 (za' j))) ∧ (∀ j, j < na → w.cell? ⟨bb', ob' + j, none⟩ = some (.float .f32 (zb' j))) ∧ ∀ c W, Xx c W → OkP s loa hia na (fun j => lerpP (za' j) (zb' j) t) c W)) →
        ∀ (_ : ∀ w', Kept None' w w' → Calls Try.prog 60 #[.agg #[.int .i64 (s : Int), .float .f32 loa, .float .f32 hia, .slice (some ⟨ba, oa, none⟩) na capa], .agg #[.int .i64 (u : Int), .float .f32 lob, .float .f32 hib, .slice (some ⟨bb, ob, none⟩) nb capb], .float .f32 t] w' (CuRes Xx ex w')) (_ : Firm Xx),
        Calls Try.prog 9 #[.agg #[.int .i64 (s : Int), .float .f32 loa, .float .f32 hia, .slice (some ⟨ba, oa, none⟩) na capa], .agg #[.int .i64 (u : Int), .float .f32 lob, .float .f32 hib, .slice (some ⟨bb, ob, none⟩) nb capb], .int .i64 N, .float .f32 t] w fun e w' => e = .returned (.bool true) ∧ Kept None' w w' := fun ex Xx hx hBl fx => by
      refine cc_gen s u loa hia lob hib _ _ na capa nb capb N t w 0 0 0 _ 0 ed ex bi _ Xd Xx hna hnb hEa hEb (if_neg (by omega)) hbi rfl (firm_ok _ _ _ _ _) fd fx hCo hRe hBl ?_ hPC
      cases hd : decide ((s : Int) ≤ 4) with
      | false => exact .inr (.inl ⟨rfl, rfl⟩)
      | true => exact .inr (.inr ⟨rfl, rfl, rfl, ⟨_, _, fun _ _ h => h, hnG, hMo⟩, hx⟩)
    cases hs : cu2S (s : Int) loa hia u lob hib with
    | false =>
      exact hPB 12 (fun c _ => ErP c) (.inl ⟨hs, rfl, fun _ _ h => h⟩) (fun w' _ => (blend_err s u loa hia lob hib _ _ na capa nb capb t w' 12 (by decide) (fun w2 => checkboth_ok s u loa hia lob hib _ _ na capa nb capb w2 false hna hnb hEa hEb hs)).mono fun _ _ h => cuErr_res h) firm_er
    | true =>
      have hsu : (s : Int) = u := by
        unfold cu2S at hs
        simp only [Bool.and_eq_true, Bool.not_eq_true', bne_eq_false_iff_eq] at hs
        exact hs.1
      obtain rfl : s = u := by omega
      obtain rfl : na = nb := by omega
      exact hPB 0 (OkP s loa hia na (fun j => lerpP (za j) (zb j) t)) (.inr ⟨hs, rfl, rfl, hpa, hs4, ba, oa, bb, ob, za, zb, rfl, rfl, hca, hcb, fun _ _ h => h⟩) (fun w' hk => (blend_ok s s loa hia lob hib ba oa bb ob na capa capb t za zb w' hs4 (fun w2 => checkboth_ok s s loa hia lob hib _ _ na capa na capb w2 true hna hnb hEa hEb hs) (fun q hq => hk.some (hca q hq) id) (fun q hq => hk.some (hcb q hq) id)).mono fun _ _ h => cuPost_res h) (firm_ok _ _ _ _ _)
  · have hCB : ∀ w', Calls Try.prog 80 #[.agg #[.int .i64 Sa, .float .f32 loa, .float .f32 hia, .slice Aa na capa], .agg #[.int .i64 Sb, .float .f32 lob, .float .f32 hib, .slice Ab nb capb]] w' fun e w'' => e = .returned (.int .i64 (if Ea ≠ 0 then Ea else Eb)) ∧ Kept None' w' w'' := fun w' => by
      by_cases ha : Ea = 0
      · subst ha
        rw [if_neg (by omega)] at hE ⊢
        exact checkboth_e2 Sa Sb loa hia lob hib Aa Ab na capa nb capb w' Eb hna hnb hEa hEb hE
      · rw [if_pos ha] at hE ⊢
        exact checkboth_e1 Sa Sb loa hia lob hib Aa Ab na capa nb capb w' Ea hna hEa hE
    exact cc_gen Sa Sb loa hia lob hib Aa Ab na capa nb capb N t w Ea Eb _ _ _ ed _ bi (fun c _ => ErP c) Xd (fun c _ => ErP c) hna hnb hEa hEb rfl hbi rfl firm_er fd firm_er
      (fun w' _ => (compose_err Sa Sb loa hia lob hib Aa Ab na capa nb capb w' Ea Eb _ hna hnb hEa hEb rfl hE).mono fun _ _ h => cuErr_res h) hRe
      (fun w' _ => (blend_err Sa Sb loa hia lob hib Aa Ab na capa nb capb t w' _ hE hCB).mono fun _ _ h => cuErr_res h)
      (.inl ⟨hE, rfl, rfl, fun _ _ h => h, fun _ _ h => h⟩) hPC
end Go.Proofs.Ytkmganophcklgaa
