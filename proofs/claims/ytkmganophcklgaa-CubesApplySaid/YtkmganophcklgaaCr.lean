/- The contracts of cube.Compose, Resize, checkBoth. Conditions: none. -/
import Derived.Test.YtkmganophcklgaaCp
import Derived.Test.YtkmganophcklgaaC7
namespace Go.Proofs.Ytkmganophcklgaa
open Go.RowKit
open Fl Fr
open BigFrame

theorem cu2_i0 (a0 a1 a2 a3 b0 b1 b2 b3 : Value) (w : World) : (Instr.index 124 (.agg #[a0, a1, a2, a3, b0, b1, b2, b3]) (.int .i64 0)).run Try.prog w = .ok (.agg #[a0, a1, a2, a3]) w := by kernel_rfl
theorem cu2_i1 (a0 a1 a2 a3 b0 b1 b2 b3 : Value) (w : World) : (Instr.index 124 (.agg #[a0, a1, a2, a3, b0, b1, b2, b3]) (.int .i64 1)).run Try.prog w = .ok (.agg #[b0, b1, b2, b3]) w := by kernel_rfl
/-- Have two cubes one form. -/
def cu2S (Sa : Int) (loa hia : Nat) (Sb : Int) (lob hib : Nat) : Bool := !(Sa != Sb) && (!(FloatKind.f32.format.order loa lob != some .eq) && !(FloatKind.f32.format.order hia hib != some .eq))
def cu2E (same : Bool) : Int := if same = true then 0 else 12

set_option linter.unusedSimpArgs false in
set_option linter.unusedVariables false in
set_option maxHeartbeats 1000000 in
set_option maxRecDepth 100000 in
theorem checkboth_e1 (Sa Sb : Int) (loa hia lob hib : Nat) (Aa Ab : Option Addr) (na capa nb capb : Nat) (w : World) (E : Int) (hna : na ≤ 9223372036854775807) (hE : cuE Sa loa hia na = E) (h0 : ¬ E = 0) :
    Calls Try.prog 80 #[.agg #[.int .i64 Sa, .float .f32 loa, .float .f32 hia, .slice Aa na capa], .agg #[.int .i64 Sb, .float .f32 lob, .float .f32 hib, .slice Ab nb capb]] w fun e w' => e = .returned (.int .i64 E) ∧ Kept None' w w' := by
  have hb : (E != 0) = true := by simp [h0]
  have HE := Lib.hid hE
  have i0 := cu2_i0
  clear hE
  go_enter Try.func80, Try.ntmps80
  go_wp2_with fail
  refine wp_loop_rounds 3 ?_
  rw [rounds_succ]
  go_wp2_with (go_at_call 37; refine (checkcube_any _ _ _ _ _ _ _ (by assumption)).mono ?_; rw [HE.out]; rintro e w1 ⟨rfl, hk⟩)
  go_ret
  exact ⟨rfl, (((((Kept.refl None' w).alloc _ _).alloc _ _)).alloc _ _).trans hk⟩
set_option linter.unusedSimpArgs false in
set_option linter.unusedVariables false in
set_option maxHeartbeats 1000000 in
set_option maxRecDepth 100000 in
theorem checkboth_e2 (Sa Sb : Int) (loa hia lob hib : Nat) (Aa Ab : Option Addr) (na capa nb capb : Nat) (w : World) (E : Int) (hna : na ≤ 9223372036854775807) (hnb : nb ≤ 9223372036854775807) (hEa : cuE Sa loa hia na = 0) (hE : cuE Sb lob hib nb = E) (h0 : ¬ E = 0) :
    Calls Try.prog 80 #[.agg #[.int .i64 Sa, .float .f32 loa, .float .f32 hia, .slice Aa na capa], .agg #[.int .i64 Sb, .float .f32 lob, .float .f32 hib, .slice Ab nb capb]] w fun e w' => e = .returned (.int .i64 E) ∧ Kept None' w w' := by
  have hb : (E != 0) = true := by simp [h0]
  have HE := Lib.hid hE
  have HEa := Lib.hid hEa
  have i0 := cu2_i0
  have i1 := cu2_i1
  clear hE hEa
  go_enter Try.func80, Try.ntmps80
  go_wp2_with fail
  refine wp_loop_rounds 3 ?_
  repeat
    rw [rounds_succ]
    go_wp2_with (first
      | (go_at_call 37; refine (checkcube_any _ _ _ _ _ _ _ (by assumption)).mono ?_; rw [HEa.out]; rintro e w1 ⟨rfl, hk⟩; have K1 := Lib.hid ((((((Kept.refl None' w).alloc _ _).alloc _ _)).alloc _ _).trans hk); clear hk)
      | (go_at_call 37; refine (checkcube_any _ _ _ _ _ _ _ (by assumption)).mono ?_; rw [HE.out]; rintro e w2 ⟨rfl, hk⟩; have K2 := Lib.hid ((K1.out.alloc _ _).trans hk); clear hk))
  go_ret
  exact ⟨rfl, K2.out⟩
set_option linter.unusedSimpArgs false in
set_option linter.unusedVariables false in
set_option maxHeartbeats 1000000 in
set_option maxRecDepth 100000 in
theorem checkboth_ok (Sa Sb : Int) (loa hia lob hib : Nat) (Aa Ab : Option Addr) (na capa nb capb : Nat) (w : World) (same : Bool) (hna : na ≤ 9223372036854775807) (hnb : nb ≤ 9223372036854775807) (hEa : cuE Sa loa hia na = 0) (hEb : cuE Sb lob hib nb = 0) (hs : cu2S Sa loa hia Sb lob hib = same) :
    Calls Try.prog 80 #[.agg #[.int .i64 Sa, .float .f32 loa, .float .f32 hia, .slice Aa na capa], .agg #[.int .i64 Sb, .float .f32 lob, .float .f32 hib, .slice Ab nb capb]] w fun e w' => e = .returned (.int .i64 (cu2E same)) ∧ Kept None' w w' := by
  have HEb := Lib.hid hEb
  have HEa := Lib.hid hEa
  have i0 := cu2_i0
  have i1 := cu2_i1
  have HS := Lib.hid hs
  clear hEa hEb hs
  go_enter Try.func80, Try.ntmps80
  go_upto_region 1 with fail
  refine of_world (fun W0 hW => ?_)
  have k0 : Kept None' w W0 := by rw [hW]; exact ((Kept.refl None' w).alloc _ _).alloc _ _
  have a0 : W0.cell? ⟨w.heap.size, 0, none⟩ = some (.int .i64 Sa) := by rw [hW]; go_simp
  have a1 : W0.cell? ⟨w.heap.size, 1, none⟩ = some (.float .f32 loa) := by rw [hW]; go_simp
  have a2 : W0.cell? ⟨w.heap.size, 2, none⟩ = some (.float .f32 hia) := by rw [hW]; go_simp
  have a3 : W0.cell? ⟨w.heap.size, 3, none⟩ = some (.slice Aa na capa) := by rw [hW]; go_simp
  have b0 : W0.cell? ⟨w.heap.size + 1, 0, none⟩ = some (.int .i64 Sb) := by rw [hW]; go_simp
  have b1 : W0.cell? ⟨w.heap.size + 1, 1, none⟩ = some (.float .f32 lob) := by rw [hW]; go_simp
  have b2 : W0.cell? ⟨w.heap.size + 1, 2, none⟩ = some (.float .f32 hib) := by rw [hW]; go_simp
  have b3 : W0.cell? ⟨w.heap.size + 1, 3, none⟩ = some (.slice Ab nb capb) := by rw [hW]; go_simp
  have K0 := Lib.hid k0
  have HC := Lib.hid (And.intro a0 (And.intro a1 (And.intro a2 (And.intro b0 (And.intro b1 b2)))))
  clear hW k0
  go_upto_region 2 with fail
  clear a0 a1 a2 a3 b0 b1 b2 b3
  cases hS : (Sa != Sb) <;> cases hl : (FloatKind.f32.format.order loa lob != some .eq) <;> cases hh : (FloatKind.f32.format.order hia hib != some .eq)
  all_goals
    have hs := HS.out
    unfold cu2S at hs
    rw [hS, hl, hh] at hs
    subst hs
    clear HS
    refine wp_loop_rounds 3 ?_
    repeat
      rw [rounds_succ]
      go_wp2_with (first
        | (go_at_call 37; refine (checkcube_any _ _ _ _ _ _ _ (by assumption)).mono ?_; rw [HEa.out]; rintro e w1 ⟨rfl, hk⟩; have K1 := Lib.hid (((Kept.refl None' W0).alloc _ _).trans hk); clear hk)
        | (go_at_call 37; refine (checkcube_any _ _ _ _ _ _ _ (by assumption)).mono ?_; rw [HEb.out]; rintro e w2 ⟨rfl, hk⟩; have kk := (K1.out.alloc _ _).trans hk; have K2 := Lib.hid kk; have a0 := kk.some HC.out.1 id; have a1 := kk.some HC.out.2.1 id; have a2 := kk.some HC.out.2.2.1 id; have b0 := kk.some HC.out.2.2.2.1 id; have b1 := kk.some HC.out.2.2.2.2.1 id; have b2 := kk.some HC.out.2.2.2.2.2 id; clear hk kk))
    go_ret
    refine ⟨?_, K0.out.trans K2.out⟩
    first | exact (show Ending.returned (.int .i64 12) = _ from rfl) | exact (show Ending.returned (.int .i64 0) = _ from rfl)

theorem compose1_gives (Sa Sb : Nat) (loa hia ba oa na capa lob hib bb ob nb capb Ta Tb : Nat) (za zb : Nat → Nat) (w : World) (hna : (na : Int) = 3 * (Sa : Int) * Sa * Sa) (hnb : (nb : Int) = 3 * (Sb : Int) * Sb * Sb) (a1 : 2 ≤ Sa) (a2 : Sa ≤ 17) (b1 : 2 ≤ Sb) (b2 : Sb ≤ 17) (hca : ∀ q, q < na → w.cell? ⟨ba, oa + q, none⟩ = some (.float .f32 (za q))) (hcapa : na ≤ capa) (hcb : ∀ q, q < nb → w.cell? ⟨bb, ob + q, none⟩ = some (.float .f32 (zb q))) (hcapb : nb ≤ capb) (hBa : CubB Ta Sa loa hia ba oa na capa w) (hBb : CubB Tb Sb lob hib bb ob nb capb w) :
    Gives 104 #[.pointer (some ⟨Ta, 0, none⟩), .pointer (some ⟨Tb, 0, none⟩)] (cmF (entE za Sa) (entE zb Sb) Sb lob hib) Sa w := fun i j k wr hk i0 i1 j0 j1 k0 k1 =>
  (compose1_any i j k Sa Sb loa hia ba oa na capa lob hib bb ob nb capb Ta Tb (fun c => entE za Sa i j k c) (cmF (entE za Sa) (entE zb Sb) Sb lob hib i j k) wr (hBa.step hk id) (hBb.step hk id)
    (fun w2 hk2 => entry_E Sa loa hia ba oa na capa za w hna (by omega) (by omega) hca hcapa i j k w2 (hk.trans hk2) i0 i1 j0 j1 k0 k1)
    (fun w2 hk2 => tetra_any Sb lob hib bb ob nb capb (entE zb Sb) (pxT (fun c => entE za Sa i j k c)) w2 (by omega) (by omega) (fun x y u w3 hk3 => entry_E Sb lob hib bb ob nb capb zb w hnb (by omega) (by omega) hcb hcapb x y u w3 ((hk.trans hk2).trans hk3)))).mono
    fun _ _ ⟨h1, h2⟩ => ⟨_, h1, fun _ _ => cl_cmF .., h2⟩
theorem ccompose1_gives (Sa Sb : Nat) (loa hia ba oa na capa lob hib bb ob nb capb Ta Tb : Nat) (za zb : Nat → Nat) (w : World) (hna : (na : Int) = 3 * (Sa : Int) * Sa * Sa) (hnb : (nb : Int) = 3 * (Sb : Int) * Sb * Sb) (a1 : 2 ≤ Sa) (a2 : Sa ≤ 17) (b1 : 2 ≤ Sb) (b2 : Sb ≤ 17) (hca : ∀ q, q < na → w.cell? ⟨ba, oa + q, none⟩ = some (.float .f32 (za q))) (hcapa : na ≤ capa) (hcb : ∀ q, q < nb → w.cell? ⟨bb, ob + q, none⟩ = some (.float .f32 (zb q))) (hcapb : nb ≤ capb) (hBa : CubB Ta Sa loa hia ba oa na capa w) (hBb : CubB Tb Sb lob hib bb ob nb capb w) :
    Gives 62 #[.pointer (some ⟨Ta, 0, none⟩), .pointer (some ⟨Tb, 0, none⟩)] (cmF (entE za Sa) (entE zb Sb) Sb lob hib) Sa w := fun i j k wr hk i0 i1 j0 j1 k0 k1 =>
  (ccompose1_any i j k Sa Sb loa hia ba oa na capa lob hib bb ob nb capb Ta Tb (fun c => entF za Sa i j k c) (cmF (entF za Sa) (entF zb Sb) Sb lob hib i j k) wr (hBa.step hk id) (hBb.step hk id)
    (fun w2 hk2 => entryof_E Sa loa hia ba oa na capa za w hna (by omega) (by omega) hca hcapa i j k w2 (hk.trans hk2) i0 i1 j0 j1 k0 k1)
    (fun w2 hk2 => tetraof_any Sb lob hib bb ob nb capb (entF zb Sb) (pxT (fun c => entF za Sa i j k c)) w2 (by omega) (by omega) (fun _ _ _ _ => cl_cl _ _) (fun x y u w3 hk3 => entryof_E Sb lob hib bb ob nb capb zb w hnb (by omega) (by omega) hcb hcapb x y u w3 ((hk.trans hk2).trans hk3)))).mono
    fun _ _ ⟨h1, h2⟩ => ⟨_, h1, fun c _ => (cl_cmF ..).trans ((cmF_cl (entE za Sa) (entF zb Sb) Sb lob hib i j k c).trans (cmF_clb (entE za Sa) (entE zb Sb) Sb lob hib i j k c)), h2⟩
/-- The colours at the places of a cube of another size. -/
def rsF (E : Int → Int → Int → Nat → Nat) (S N : Int) (lo hi : Nat) (i j k : Int) (c : Nat) : Nat := teP E S lo hi (pxT (fun c => spP N lo hi (if c = 0 then i else if c = 1 then j else k))) c
theorem cl_rsF (E : Int → Int → Int → Nat → Nat) (S N : Int) (lo hi : Nat) (i j k : Int) (c : Nat) : cl .f32 (rsF E S N lo hi i j k c) = rsF E S N lo hi i j k c := teP_canon3 _ _ _ _ _ _ (fun _ _ _ _ => .inr trivial)
theorem resize1_gives (S N : Nat) (lo hi b o n cap T U : Nat) (z : Nat → Nat) (w : World) (hE : cuE (S : Int) lo hi n = 0) (s1 : 2 ≤ N) (s2 : N ≤ 17) (hc : ∀ q, q < n → w.cell? ⟨b, o + q, none⟩ = some (.float .f32 (z q))) (hcap : n ≤ cap) (hB : CubB T S lo hi b o n cap w) (hU : w.cell? ⟨U, 0, none⟩ = some (.int .i64 (N : Int))) :
    Gives 106 #[.pointer (some ⟨T, 0, none⟩), .pointer (some ⟨U, 0, none⟩)] (rsF (entE z S) S N lo hi) N w := fun i j k wr hk i0 i1 j0 j1 k0 k1 => by
  obtain ⟨s, hs, t1, t2, hn', -, -⟩ := cuE_nat hE
  obtain rfl : S = s := by omega
  exact (resize1_any i j k S lo hi b o n cap T U N (rsF (entE z S) S N lo hi i j k) wr hE s1 s2 i0 i1 j0 j1 k0 k1 (hB.step hk id) (hk.some hU id)
    (fun w2 hk2 => tetra_any S lo hi b o n cap (entE z S) (pxT (fun c => spP N lo hi (if c = 0 then i else if c = 1 then j else k))) w2 (by omega) (by omega) (fun x y u w3 hk3 => entry_E S lo hi b o n cap z w hn' (by omega) (by omega) hc hcap x y u w3 ((hk.trans hk2).trans hk3)))).mono
    fun _ _ ⟨h1, h2⟩ => ⟨_, h1, fun _ _ => cl_rsF .., h2⟩
theorem ccompose2_gives (S N : Nat) (lo hi b o n cap T U : Nat) (z : Nat → Nat) (w : World) (hE : cuE (S : Int) lo hi n = 0) (s1 : 2 ≤ N) (s2 : N ≤ 17) (hc : ∀ q, q < n → w.cell? ⟨b, o + q, none⟩ = some (.float .f32 (z q))) (hcap : n ≤ cap) (hB : CubB T S lo hi b o n cap w) (hU : w.cell? ⟨U, 0, none⟩ = some (.int .i64 (N : Int))) :
    Gives 64 #[.pointer (some ⟨T, 0, none⟩), .pointer (some ⟨U, 0, none⟩)] (rsF (entE z S) S N lo hi) N w := fun i j k wr hk i0 i1 j0 j1 k0 k1 => by
  obtain ⟨s, hs, t1, t2, hn', -, -⟩ := cuE_nat hE
  obtain rfl : S = s := by omega
  exact (ccompose2_any i j k S lo hi b o n cap T U N (rsF (entF z S) S N lo hi i j k) wr hE s1 s2 i0 i1 j0 j1 k0 k1 (hB.step hk id) (hk.some hU id)
    (fun w2 hk2 => tetraof_any S lo hi b o n cap (entF z S) (pxT (fun c => spP N lo hi (if c = 0 then i else if c = 1 then j else k))) w2 (by omega) (by omega) (fun _ _ _ _ => cl_cl _ _) (fun x y u w3 hk3 => entryof_E S lo hi b o n cap z w hn' (by omega) (by omega) hc hcap x y u w3 ((hk.trans hk2).trans hk3)))).mono
    fun _ _ ⟨h1, h2⟩ => ⟨_, h1, fun c _ => (cl_rsF ..).trans (teP_cl (entE z S) S lo hi _ c), h2⟩

/-- Two cubes and the box of the result, as a function that takes two cubes begins. -/
structure TwoB (T U R : Nat) (Sa Sb : Int) (loa hia lob hib : Nat) (Aa Ab : Option Addr) (na capa nb capb : Nat) (w : World) : Prop where
  a0 : w.cell? ⟨T, 0, none⟩ = some (.int .i64 Sa)
  a1 : w.cell? ⟨T, 1, none⟩ = some (.float .f32 loa)
  a2 : w.cell? ⟨T, 2, none⟩ = some (.float .f32 hia)
  a3 : w.cell? ⟨T, 3, none⟩ = some (.slice Aa na capa)
  b0 : w.cell? ⟨U, 0, none⟩ = some (.int .i64 Sb)
  b1 : w.cell? ⟨U, 1, none⟩ = some (.float .f32 lob)
  b2 : w.cell? ⟨U, 2, none⟩ = some (.float .f32 hib)
  b3 : w.cell? ⟨U, 3, none⟩ = some (.slice Ab nb capb)
  r0 : w.cell? ⟨R, 0, none⟩ = some (.int .i64 0)
  r1 : w.cell? ⟨R, 1, none⟩ = some (.float .f32 0)
  r2 : w.cell? ⟨R, 2, none⟩ = some (.float .f32 0)
  r3 : w.cell? ⟨R, 3, none⟩ = some (.slice none 0 0)
  z : ∀ c, w.frozen? ⟨R, c, none⟩ = false
theorem TwoB.step {T U R : Nat} {Sa Sb : Int} {loa hia lob hib : Nat} {Aa Ab : Option Addr} {na capa nb capb : Nat} {w w' : World} (h : TwoB T U R Sa Sb loa hia lob hib Aa Ab na capa nb capb w) (k : Kept None' w w') : TwoB T U R Sa Sb loa hia lob hib Aa Ab na capa nb capb w' :=
  ⟨k.some h.a0 id, k.some h.a1 id, k.some h.a2 id, k.some h.a3 id, k.some h.b0 id, k.some h.b1 id, k.some h.b2 id, k.some h.b3 id, k.some h.r0 id, k.some h.r1 id, k.some h.r2 id, k.some h.r3 id, fun c => (k.frozen _).trans (h.z c)⟩

set_option linter.unusedSimpArgs false in
set_option linter.unusedVariables false in
set_option maxHeartbeats 1000000 in
set_option maxRecDepth 100000 in
theorem compose_err (Sa Sb : Int) (loa hia lob hib : Nat) (Aa Ab : Option Addr) (na capa nb capb : Nat) (w : World) (Ea Eb E : Int) (hna : na ≤ 9223372036854775807) (hnb : nb ≤ 9223372036854775807) (hEa : cuE Sa loa hia na = Ea) (hEb : cuE Sb lob hib nb = Eb) (hE : (if Ea ≠ 0 then Ea else Eb) = E) (h0 : ¬ E = 0) :
    Calls Try.prog 58 #[.agg #[.int .i64 Sa, .float .f32 loa, .float .f32 hia, .slice Aa na capa], .agg #[.int .i64 Sb, .float .f32 lob, .float .f32 hib, .slice Ab nb capb]] w (CuErr E w) := by
  have HEb := Lib.hid hEb
  have HEa := Lib.hid hEa
  have i0 := cu2_i0
  have i1 := cu2_i1
  clear hEa hEb
  go_enter Try.func58, Try.ntmps58
  go_upto_region 1 with fail
  refine of_world (fun W0 hW => ?_)
  have k0 : Kept None' w W0 := by rw [hW]; exact (((Kept.refl None' w).alloc _ _).alloc _ _).alloc _ _
  have hB : TwoB w.heap.size (w.heap.size + 1) (w.heap.size + 1 + 1) Sa Sb loa hia lob hib Aa Ab na capa nb capb W0 := by
    rw [hW]
    exact ⟨by go_simp, by go_simp, by go_simp, by go_simp, by go_simp, by go_simp, by go_simp, by go_simp, by go_simp, by go_simp, by go_simp, by go_simp, fun c => (frozen?_alloc_cells _ _ _ _).trans ((frozen?_alloc_cells _ _ _ _).trans ((frozen?_alloc_cells _ _ _ _).trans (frozen_new _ _ (by simp; omega))))⟩
  have HB := Lib.hid hB
  obtain ⟨a0, a1, a2, a3, b0, b1, b2, b3, -, -, -, -, -⟩ := hB
  have K0 := Lib.hid k0
  clear hW k0
  go_upto_region 2 with fail
  clear a0 a1 a2 a3 b0 b1 b2 b3
  by_cases ha : Ea = 0
  · obtain rfl : Eb = E := by rw [← hE, if_neg (by omega)]
    subst ha
    have hb : (Eb != 0) = true := by simp [h0]
    clear hE
    refine wp_loop_rounds 3 ?_
    repeat
      rw [rounds_succ]
      go_wp2_with (first
        | (go_at_call 37; refine (checkcube_any _ _ _ _ _ _ _ (by assumption)).mono ?_; rw [HEa.out]; rintro e w1 ⟨rfl, hk⟩; have K1 := Lib.hid (((Kept.refl None' W0).alloc _ _).trans hk); clear hk)
        | (go_at_call 37; refine (checkcube_any _ _ _ _ _ _ _ (by assumption)).mono ?_; rw [HEb.out]; rintro e w2 ⟨rfl, hk⟩; have kk := (K1.out.alloc _ _).trans hk; have K2 := Lib.hid kk; obtain ⟨-, -, -, -, -, -, -, -, r0, r1, r2, r3, zz⟩ := HB.out.step kk; have z0 := zz 0; have z1 := zz 1; have z2 := zz 2; have z3 := zz 3; clear hk kk zz))
    have cs := cells_set4 (v0 := .int .i64 0) (v1 := .float .f32 0) (v2 := .float .f32 0) (v3 := .slice none 0 0) r0 r1 r2 r3
    refine bodyPost_ret (cu_ret2 Try.results58 _ _ (w.heap.size + 1 + 1) _ _ _ _ cs rfl) rfl ?_
    exact ⟨rfl, kept_set4' (K0.out.trans K2.out) (by omega)⟩
  · obtain rfl : Ea = E := by rw [← hE, if_pos ha]
    have hb : (Ea != 0) = true := by simp [h0]
    clear hE ha
    refine wp_loop_rounds 3 ?_
    rw [rounds_succ]
    go_wp2_with (go_at_call 37; refine (checkcube_any _ _ _ _ _ _ _ (by assumption)).mono ?_; rw [HEa.out]; rintro e w2 ⟨rfl, hk⟩; have kk := ((Kept.refl None' W0).alloc _ _).trans hk; have K2 := Lib.hid kk; obtain ⟨-, -, -, -, -, -, -, -, r0, r1, r2, r3, zz⟩ := HB.out.step kk; have z0 := zz 0; have z1 := zz 1; have z2 := zz 2; have z3 := zz 3; clear hk kk zz)
    have cs := cells_set4 (v0 := .int .i64 0) (v1 := .float .f32 0) (v2 := .float .f32 0) (v3 := .slice none 0 0) r0 r1 r2 r3
    refine bodyPost_ret (cu_ret2 Try.results58 _ _ (w.heap.size + 1 + 1) _ _ _ _ cs rfl) rfl ?_
    exact ⟨rfl, kept_set4' (K0.out.trans K2.out) (by omega)⟩

set_option linter.unusedSimpArgs false in
set_option linter.unusedVariables false in
set_option maxHeartbeats 2000000 in
set_option maxRecDepth 100000 in
theorem compose_ok (Sa Sb : Nat) (loa hia ba oa na capa lob hib bb ob nb capb : Nat) (za zb : Nat → Nat) (w : World) (hEa : cuE (Sa : Int) loa hia na = 0) (hEb : cuE (Sb : Int) lob hib nb = 0) (hca : ∀ q, q < na → w.cell? ⟨ba, oa + q, none⟩ = some (.float .f32 (za q))) (hcapa : na ≤ capa) (hcb : ∀ q, q < nb → w.cell? ⟨bb, ob + q, none⟩ = some (.float .f32 (zb q))) (hcapb : nb ≤ capb) :
    Calls Try.prog 58 #[.agg #[.int .i64 (Sa : Int), .float .f32 loa, .float .f32 hia, .slice (some ⟨ba, oa, none⟩) na capa], .agg #[.int .i64 (Sb : Int), .float .f32 lob, .float .f32 hib, .slice (some ⟨bb, ob, none⟩) nb capb]] w (CuPost Sa loa hia (3 * (Sa * (Sa * Sa))) (cubG (cmF (entE za Sa) (entE zb Sb) Sb lob hib) Sa) w) := by
  obtain ⟨s, hs, a1', a2', hna', -, na4⟩ := cuE_nat hEa
  obtain rfl : Sa = s := by omega
  obtain ⟨t, ht, b1', b2', hnb', -, nb4⟩ := cuE_nat hEb
  obtain rfl : Sb = t := by omega
  have hna : na ≤ 9223372036854775807 := by omega
  have hnb : nb ≤ 9223372036854775807 := by omega
  have HEb := Lib.hid hEb
  have HEa := Lib.hid hEa
  have HG := Lib.hid (fun (w2 : World) (hk : Kept None' w w2) (hBa : CubB w.heap.size Sa loa hia ba oa na capa w2) (hBb : CubB (w.heap.size + 1) Sb lob hib bb ob nb capb w2) => compose1_gives Sa Sb loa hia ba oa na capa lob hib bb ob nb capb w.heap.size (w.heap.size + 1) za zb w2 hna' hnb' a1' a2' b1' b2' (fun q hq => hk.some (hca q hq) id) hcapa (fun q hq => hk.some (hcb q hq) id) hcapb hBa hBb)
  have i0 := cu2_i0
  have i1 := cu2_i1
  clear hEa hEb hca hcb hs ht hna' hnb' na4 nb4 hcapa hcapb
  go_enter Try.func58, Try.ntmps58
  go_upto_region 1 with fail
  refine of_world (fun W0 hW => ?_)
  have k0 : Kept None' w W0 := by rw [hW]; exact (((Kept.refl None' w).alloc _ _).alloc _ _).alloc _ _
  have hB : TwoB w.heap.size (w.heap.size + 1) (w.heap.size + 1 + 1) Sa Sb loa hia lob hib (some ⟨ba, oa, none⟩) (some ⟨bb, ob, none⟩) na capa nb capb W0 := by
    rw [hW]
    exact ⟨by go_simp, by go_simp, by go_simp, by go_simp, by go_simp, by go_simp, by go_simp, by go_simp, by go_simp, by go_simp, by go_simp, by go_simp, fun c => (frozen?_alloc_cells _ _ _ _).trans ((frozen?_alloc_cells _ _ _ _).trans ((frozen?_alloc_cells _ _ _ _).trans (frozen_new _ _ (by simp; omega))))⟩
  have hsz : W0.heap.size = w.heap.size + 3 := by rw [hW]; simp
  have HB := Lib.hid hB
  obtain ⟨a0, a1, a2, a3, b0, b1, b2, b3, -, -, -, -, -⟩ := hB
  have K0 := Lib.hid k0
  have HSZ := Lib.hid hsz
  clear hW k0 hsz
  go_upto_region 2 with fail
  clear a0 a1 a2 a3 b0 b1 b2 b3
  refine wp_loop_rounds 3 ?_
  repeat
    rw [rounds_succ]
    go_upto_region 8 with (first
      | (go_at_call 37; refine (checkcube_any _ _ _ _ _ _ _ (by assumption)).mono ?_; rw [HEa.out]; rintro e w1 ⟨rfl, hk⟩; have K1 := Lib.hid (((Kept.refl None' W0).alloc _ _).trans hk); clear hk)
      | (go_at_call 37; refine (checkcube_any _ _ _ _ _ _ _ (by assumption)).mono ?_; rw [HEb.out]; rintro e w2 ⟨rfl, hk⟩; have K2 := Lib.hid ((K1.out.alloc _ _).trans hk); clear hk))
  have hT := HB.out.step K2.out
  have hg := HG.out w2 (K0.out.trans K2.out) ⟨hT.a0, hT.a1, hT.a2, hT.a3⟩ ⟨hT.b0, hT.b1, hT.b2, hT.b3⟩
  have HG2 := Lib.hid hg
  have HT := Lib.hid hT
  obtain ⟨a0, a1, a2, a3, b0, b1, b2, b3, -, -, -, -, -⟩ := hT
  clear hg HG
  go_wp2_with (go_at_call 69; refine (cmade_gen Sa loa hia 104 #[.pointer (some ⟨w.heap.size, 0, none⟩), .pointer (some ⟨w.heap.size + 1, 0, none⟩)] _ w2 a1' a2' Try.call104 HG2.out).mono ?_; rintro e w3 ⟨B, cap', hB, rfl, hcp, hcp2, hk, hc⟩; have HX := Lib.hid (And.intro hB (And.intro hcp (And.intro hcp2 hc))); have K3 := Lib.hid hk; obtain ⟨-, -, -, -, -, -, -, -, r0, r1, r2, r3, zz⟩ := HT.out.step hk; have z0 := zz 0; have z1 := zz 1; have z2 := zz 2; have z3 := zz 3; clear hk zz hB hcp hcp2 hc)
  have cs := cells_set4 (v0 := .int .i64 (Sa : Int)) (v1 := .float .f32 loa) (v2 := .float .f32 hia) (v3 := .slice (some ⟨B, 0, none⟩) (3 * (Sa * (Sa * Sa))) cap') r0 r1 r2 r3
  refine bodyPost_ret (cu_ret2 Try.results58 _ _ (w.heap.size + 1 + 1) _ _ _ _ cs rfl) rfl ?_
  obtain ⟨hB, hcp, hcp2, hc⟩ := HX.out
  have l1 := K2.out.size
  have l2 := HSZ.out
  refine ⟨B, cap', by omega, rfl, hcp, hcp2, kept_set4' (K0.out.trans (K2.out.trans K3.out)) (by omega), fun j hj => ?_⟩
  have hne : w.heap.size + 1 + 1 ≠ B := by omega
  exact cell_set_ne (cell_set_ne (cell_set_ne (cell_set_ne (hc j hj) (Or.inl hne)) (Or.inl hne)) (Or.inl hne)) (Or.inl hne)

/-- A cube, an integer and the box of the result. -/
structure OneB (T U R : Nat) (S : Int) (lo hi : Nat) (A : Option Addr) (n cap : Nat) (N : Int) (w : World) : Prop where
  a0 : w.cell? ⟨T, 0, none⟩ = some (.int .i64 S)
  a1 : w.cell? ⟨T, 1, none⟩ = some (.float .f32 lo)
  a2 : w.cell? ⟨T, 2, none⟩ = some (.float .f32 hi)
  a3 : w.cell? ⟨T, 3, none⟩ = some (.slice A n cap)
  u : w.cell? ⟨U, 0, none⟩ = some (.int .i64 N)
  r0 : w.cell? ⟨R, 0, none⟩ = some (.int .i64 0)
  r1 : w.cell? ⟨R, 1, none⟩ = some (.float .f32 0)
  r2 : w.cell? ⟨R, 2, none⟩ = some (.float .f32 0)
  r3 : w.cell? ⟨R, 3, none⟩ = some (.slice none 0 0)
  z : ∀ c, w.frozen? ⟨R, c, none⟩ = false
theorem OneB.step {T U R : Nat} {S : Int} {lo hi : Nat} {A : Option Addr} {n cap : Nat} {N : Int} {w w' : World} (h : OneB T U R S lo hi A n cap N w) (k : Kept None' w w') : OneB T U R S lo hi A n cap N w' :=
  ⟨k.some h.a0 id, k.some h.a1 id, k.some h.a2 id, k.some h.a3 id, k.some h.u id, k.some h.r0 id, k.some h.r1 id, k.some h.r2 id, k.some h.r3 id, fun c => (k.frozen _).trans (h.z c)⟩

set_option linter.unusedSimpArgs false in
set_option linter.unusedVariables false in
set_option maxHeartbeats 1000000 in
set_option maxRecDepth 100000 in
theorem resize_err (S : Int) (lo hi : Nat) (A : Option Addr) (n cap : Nat) (N : Int) (w : World) (Ea E : Int) (hn : n ≤ 9223372036854775807) (hEa : cuE S lo hi n = Ea) (hE : (if Ea ≠ 0 then Ea else if (!inB N 2 17) = true then 3 else 0) = E) (h0 : ¬ E = 0) :
    Calls Try.prog 59 #[.agg #[.int .i64 S, .float .f32 lo, .float .f32 hi, .slice A n cap], .int .i64 N] w (CuErr E w) := by
  have HEa := Lib.hid hEa
  clear hEa
  go_enter Try.func59, Try.ntmps59
  go_upto_region 1 with fail
  refine of_world (fun W0 hW => ?_)
  have k0 : Kept None' w W0 := by rw [hW]; exact (((Kept.refl None' w).alloc _ _).alloc _ _).alloc _ _
  have hB : OneB w.heap.size (w.heap.size + 1) (w.heap.size + 1 + 1) S lo hi A n cap N W0 := by
    rw [hW]
    exact ⟨by go_simp, by go_simp, by go_simp, by go_simp, by go_simp, by go_simp, by go_simp, by go_simp, by go_simp, fun c => (frozen?_alloc_cells _ _ _ _).trans ((frozen?_alloc_cells _ _ _ _).trans ((frozen?_alloc_cells _ _ _ _).trans (frozen_new _ _ (by simp; omega))))⟩
  have HB := Lib.hid hB
  obtain ⟨a0, a1, a2, a3, u, -, -, -, -, -⟩ := hB
  have K0 := Lib.hid k0
  clear hW k0
  go_upto_region 2 with (go_at_call 37; refine (checkcube_any _ _ _ _ _ _ _ hn).mono ?_; rw [HEa.out]; rintro e w2 ⟨rfl, hk⟩)
  have K2 := Lib.hid (K0.out.trans hk)
  obtain ⟨-, -, -, -, u, r0, r1, r2, r3, zz⟩ := HB.out.step hk
  have z0 := zz 0
  have z1 := zz 1
  have z2 := zz 2
  have z3 := zz 3
  clear hk zz a0 a1 a2 a3
  by_cases ha : Ea = 0
  · subst ha
    cases hI : inB N 2 17 with
    | true => rw [if_neg (by omega), hI] at hE; exact absurd hE.symm h0
    | false =>
      rw [if_neg (by omega), hI] at hE
      obtain rfl : E = 3 := hE.symm
      have hS : N < 2 ∨ 17 < N := by
        rcases Int.lt_or_le N 2 with h | h
        · exact .inl h
        · rcases Int.lt_or_le 17 N with h2 | h2
          · exact .inr h2
          · rw [inB_iff.2 ⟨h, h2⟩] at hI; cases hI
      clear hE hI
      cases d1 : decide (N < 2) with
      | true =>
        go_wp2_with fail
        have cs := cells_set4 (v0 := .int .i64 0) (v1 := .float .f32 0) (v2 := .float .f32 0) (v3 := .slice none 0 0) r0 r1 r2 r3
        refine bodyPost_ret (cu_ret2 Try.results59 _ _ (w.heap.size + 1 + 1) _ _ _ _ cs rfl) rfl ?_
        exact ⟨rfl, kept_set4' K2.out (by omega)⟩
      | false =>
        have d2 : decide (17 < N) = true := by have := of_decide_eq_false d1; exact decide_eq_true (by omega)
        clear hS
        go_wp2_with fail
        have cs := cells_set4 (v0 := .int .i64 0) (v1 := .float .f32 0) (v2 := .float .f32 0) (v3 := .slice none 0 0) r0 r1 r2 r3
        refine bodyPost_ret (cu_ret2 Try.results59 _ _ (w.heap.size + 1 + 1) _ _ _ _ cs rfl) rfl ?_
        exact ⟨rfl, kept_set4' K2.out (by omega)⟩
  · obtain rfl : Ea = E := by rw [← hE, if_pos ha]
    have hb : (Ea != 0) = true := by simp [h0]
    clear hE ha
    go_wp2_with fail
    have cs := cells_set4 (v0 := .int .i64 0) (v1 := .float .f32 0) (v2 := .float .f32 0) (v3 := .slice none 0 0) r0 r1 r2 r3
    refine bodyPost_ret (cu_ret2 Try.results59 _ _ (w.heap.size + 1 + 1) _ _ _ _ cs rfl) rfl ?_
    exact ⟨rfl, kept_set4' K2.out (by omega)⟩

set_option linter.unusedSimpArgs false in
set_option linter.unusedVariables false in
set_option maxHeartbeats 1000000 in
set_option maxRecDepth 100000 in
theorem resize_ok (S N : Nat) (lo hi b o n cap : Nat) (z : Nat → Nat) (w : World) (hE : cuE (S : Int) lo hi n = 0) (n1 : 2 ≤ N) (n2 : N ≤ 17) (hc : ∀ q, q < n → w.cell? ⟨b, o + q, none⟩ = some (.float .f32 (z q))) (hcap : n ≤ cap) :
    Calls Try.prog 59 #[.agg #[.int .i64 (S : Int), .float .f32 lo, .float .f32 hi, .slice (some ⟨b, o, none⟩) n cap], .int .i64 (N : Int)] w (CuPost N lo hi (3 * (N * (N * N))) (cubG (rsF (entE z S) S N lo hi) N) w) := by
  obtain ⟨s, hs, s1, s2, hn', -, n4⟩ := cuE_nat hE
  have hn : n ≤ 9223372036854775807 := by omega
  have d1 : decide ((N : Int) < 2) = false := decide_eq_false (by omega)
  have d2 : decide (17 < (N : Int)) = false := decide_eq_false (by omega)
  have HG := Lib.hid (fun (w2 : World) (hk : Kept None' w w2) (hB : CubB w.heap.size S lo hi b o n cap w2) (hU : w2.cell? ⟨w.heap.size + 1, 0, none⟩ = some (.int .i64 (N : Int))) => resize1_gives S N lo hi b o n cap w.heap.size (w.heap.size + 1) z w2 hE n1 n2 (fun q hq => hk.some (hc q hq) id) hcap hB hU)
  have HE := Lib.hid hE
  clear hE hc hcap hs s1 s2 hn' n4
  go_enter Try.func59, Try.ntmps59
  go_upto_region 1 with fail
  refine of_world (fun W0 hW => ?_)
  have k0 : Kept None' w W0 := by rw [hW]; exact (((Kept.refl None' w).alloc _ _).alloc _ _).alloc _ _
  have hB : OneB w.heap.size (w.heap.size + 1) (w.heap.size + 1 + 1) S lo hi (some ⟨b, o, none⟩) n cap N W0 := by
    rw [hW]
    exact ⟨by go_simp, by go_simp, by go_simp, by go_simp, by go_simp, by go_simp, by go_simp, by go_simp, by go_simp, fun c => (frozen?_alloc_cells _ _ _ _).trans ((frozen?_alloc_cells _ _ _ _).trans ((frozen?_alloc_cells _ _ _ _).trans (frozen_new _ _ (by simp; omega))))⟩
  have hsz : W0.heap.size = w.heap.size + 3 := by rw [hW]; simp
  have HB := Lib.hid hB
  obtain ⟨a0, a1, a2, a3, u, -, -, -, -, -⟩ := hB
  have K0 := Lib.hid k0
  have HSZ := Lib.hid hsz
  clear hW k0 hsz
  go_upto_region 2 with (go_at_call 37; refine (checkcube_any _ _ _ _ _ _ _ hn).mono ?_; rw [HE.out]; rintro e w2 ⟨rfl, hk⟩)
  have K2 := Lib.hid hk
  have hT := HB.out.step hk
  have HT := Lib.hid hT
  have hg := HG.out w2 (K0.out.trans hk) ⟨hT.a0, hT.a1, hT.a2, hT.a3⟩ hT.u
  have HG2 := Lib.hid hg
  clear hk hg HG a0 a1 a2 a3 u
  obtain ⟨a0, a1, a2, a3, u, -, -, -, -, -⟩ := hT
  go_wp2_with (go_at_call 69; refine (cmade_gen N lo hi 106 #[.pointer (some ⟨w.heap.size, 0, none⟩), .pointer (some ⟨w.heap.size + 1, 0, none⟩)] _ w2 n1 n2 Try.call106 HG2.out).mono ?_; rintro e w3 ⟨B, cap', hB, rfl, hcp, hcp2, hk, hc⟩; have HX := Lib.hid (And.intro hB (And.intro hcp (And.intro hcp2 hc))); have K3 := Lib.hid hk; obtain ⟨-, -, -, -, -, r0, r1, r2, r3, zz⟩ := HT.out.step hk; have z0 := zz 0; have z1 := zz 1; have z2 := zz 2; have z3 := zz 3; clear hk zz hB hcp hcp2 hc)
  have cs := cells_set4 (v0 := .int .i64 (N : Int)) (v1 := .float .f32 lo) (v2 := .float .f32 hi) (v3 := .slice (some ⟨B, 0, none⟩) (3 * (N * (N * N))) cap') r0 r1 r2 r3
  refine bodyPost_ret (cu_ret2 Try.results59 _ _ (w.heap.size + 1 + 1) _ _ _ _ cs rfl) rfl ?_
  obtain ⟨hB, hcp, hcp2, hc⟩ := HX.out
  have l1 := K2.out.size
  have l2 := HSZ.out
  refine ⟨B, cap', by omega, rfl, hcp, hcp2, kept_set4' (K0.out.trans (K2.out.trans K3.out)) (by omega), fun j hj => ?_⟩
  have hne : w.heap.size + 1 + 1 ≠ B := by omega
  exact cell_set_ne (cell_set_ne (cell_set_ne (cell_set_ne (hc j hj) (Or.inl hne)) (Or.inl hne)) (Or.inl hne)) (Or.inl hne)
end Go.Proofs.Ytkmganophcklgaa
