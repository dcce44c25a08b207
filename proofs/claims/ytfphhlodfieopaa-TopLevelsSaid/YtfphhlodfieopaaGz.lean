/- Contracts of Clip and of Bit. Conditions: none. -/
import Derived.Test.YtfphhlodfieopaaGx
namespace Go.Proofs.Ytfphhlodfieopaa
open Go.RowKit
open Fl Fr

set_option maxHeartbeats 400000 in
theorem bits_one (b : Nat) (w : World) : Calls Try.prog 72 #[.float .f32 b] w fun e w' => e = .returned (.int .u32 (cl .f32 b)) ∧ w = w' := by
  go_enter Try.func72, Try.ntmps72
  go_wp2_with (go_at_call 105; refine (clean_any _ _).mono ?_; rintro e w' ⟨rfl, rfl⟩)
  go_ret
  exact ⟨rfl, rfl⟩
set_option maxHeartbeats 400000 in
theorem bitsof_one (b : Nat) (w : World) : Calls Try.prog 74 #[.float .f32 b] w fun e w' => e = .returned (.int .u32 (cl .f32 b)) ∧ w = w' := by
  go_enter Try.func74, Try.ntmps74
  go_wp2_with (go_at_call 25; refine (fix_any _ _).mono ?_; rintro e w' ⟨rfl, rfl⟩)
  go_ret
  exact ⟨rfl, rfl⟩
theorem castBeq (a b : Nat) : ((a : Int) == (b : Int)) = (a == b) := by
  rw [Bool.eq_iff_iff, beq_iff_eq, beq_iff_eq]; omega
set_option maxHeartbeats 400000 in
theorem bit_any (a b : Nat) (w : World) : Calls Try.prog 27 #[.float .f32 a, .float .f32 b] w fun e w' => e = .returned (.bool (cl .f32 a == cl .f32 b)) ∧ w = w' := by
  rw [← castBeq]
  go_enter Try.func27, Try.ntmps27
  go_wp2_with (go_at_call 74; refine (bitsof_one _ _).mono ?_; rintro e w' ⟨rfl, rfl⟩)
  go_ret
  first | exact ⟨rfl, rfl⟩ | exact ⟨by simp, rfl⟩

theorem cl_limP (t a b : Nat) : cl .f32 (limP t a b) = limP t a b := by
  unfold limP
  repeat' split
  all_goals exact cl_cl _ _

def clipN (v lo hi : Nat) : Int := if limP v lo hi == cl .f32 v then 0 else 1

set_option maxHeartbeats 1000000 in
set_option maxRecDepth 100000 in
theorem clip1_any (c : Int) (v lo hi : Nat) (k : Int) (pl ph pm : Nat) (w : World) (hk0 : 0 ≤ k) (hk1 : k < 3) (hl : w.cell? ⟨pl, 0, none⟩ = some (.float .f32 lo)) (hh : w.cell? ⟨ph, 0, none⟩ = some (.float .f32 hi))
    (hm : w.cell? ⟨pm, 0, none⟩ = some (.int .i64 k)) (hz : w.frozen? ⟨pm, 0, none⟩ = false) :
    Calls Try.prog 70 #[.int .i64 c, .float .f32 v, .pointer (some ⟨pl, 0, none⟩), .pointer (some ⟨ph, 0, none⟩), .pointer (some ⟨pm, 0, none⟩)] w fun e w' =>
      e = .returned (.float .f32 (limP v lo hi)) ∧ Kept (fun i => i = pm) w w' ∧ w'.cell? ⟨pm, 0, none⟩ = some (.int .i64 (k + clipN v lo hi)) := by
  unfold clipN
  have hw : IntKind.i64.wrap (k + 1) = k + 1 := IntWalk.i64_in _ (by omega)
  cases hc : limP v lo hi == cl .f32 v with
  | true =>
    have hb : ((limP v lo hi : Int) == (cl .f32 v : Int)) = true := by rw [castBeq]; exact hc
    have hb2 : (limP v lo hi : Int) = (cl .f32 v : Int) := by simpa using hb
    clear hc hb
    go_enter Try.func70, Try.ntmps70
    go_wp2_with (first
      | (go_at_call 71; refine (limit_any _ _ _ _).mono ?_; rintro e w' ⟨rfl, rfl⟩)
      | (go_at_call 72; refine (bits_one _ _).mono ?_; rw [cl_limP]; rintro e w' ⟨rfl, rfl⟩)
      | (go_at_call 72; refine (bits_one _ _).mono ?_; rintro e w' ⟨rfl, rfl⟩))
    go_ret
    exact ⟨rfl, Kept.refl _ _, by simpa using hm⟩
  | false =>
    have hb : ((limP v lo hi : Int) == (cl .f32 v : Int)) = false := by rw [castBeq]; exact hc
    have hb2 : ¬ (limP v lo hi : Int) = (cl .f32 v : Int) := by simpa using hb
    clear hc hb
    go_enter Try.func70, Try.ntmps70
    go_wp2_with (first
      | (go_at_call 71; refine (limit_any _ _ _ _).mono ?_; rintro e w' ⟨rfl, rfl⟩)
      | (go_at_call 72; refine (bits_one _ _).mono ?_; rw [cl_limP]; rintro e w' ⟨rfl, rfl⟩)
      | (go_at_call 72; refine (bits_one _ _).mono ?_; rintro e w' ⟨rfl, rfl⟩))
    go_ret
    exact ⟨rfl, Kept.setCell (A := fun i => i = pm) (Kept.refl _ _) (Or.inr rfl) _, cell_set_eq hm⟩

theorem three_clip (p0 p1 p2 p3 lo hi : Nat) (pl ph pm : Nat) (w : World) (hl : w.cell? ⟨pl, 0, none⟩ = some (.float .f32 lo)) (hh : w.cell? ⟨ph, 0, none⟩ = some (.float .f32 hi))
    (hm : w.cell? ⟨pm, 0, none⟩ = some (.int .i64 0)) (hz : w.frozen? ⟨pm, 0, none⟩ = false) (hpl : pl ≠ pm) (hph : ph ≠ pm) :
    Calls Try.prog 66 #[.agg #[.float .f32 p0, .float .f32 p1, .float .f32 p2, .float .f32 p3], .func (.func 70) #[] #[.pointer (some ⟨pl, 0, none⟩), .pointer (some ⟨ph, 0, none⟩), .pointer (some ⟨pm, 0, none⟩)]] w fun e w' =>
      e = .returned (.agg #[.float .f32 (limP p0 lo hi), .float .f32 (limP p1 lo hi), .float .f32 (limP p2 lo hi), .float .f32 (cl .f32 p3)]) ∧ Kept (fun i => i = pm) w w' ∧ w'.cell? ⟨pm, 0, none⟩ = some (.int .i64 (clipN p0 lo hi + clipN p1 lo hi + clipN p2 lo hi)) := by
  have hN : ∀ v, 0 ≤ clipN v lo hi ∧ clipN v lo hi ≤ 1 := fun v => by unfold clipN; split <;> omega
  have h := three_gen (fun i => i = pm) (fun c w' => w'.cell? ⟨pm, 0, none⟩ = some (.int .i64 (if c = 0 then 0 else if c = 1 then clipN p0 lo hi else if c = 2 then clipN p0 lo hi + clipN p1 lo hi else clipN p0 lo hi + clipN p1 lo hi + clipN p2 lo hi)))
    (fun c => if c = 0 then p0 else if c = 1 then p1 else p2) p3 70 #[.pointer (some ⟨pl, 0, none⟩), .pointer (some ⟨ph, 0, none⟩), .pointer (some ⟨pm, 0, none⟩)] (fun c => limP (if c = 0 then p0 else if c = 1 then p1 else p2) lo hi) w
    (fun i hi => by subst hi; exact cell_lt hm) (fun c a b ha hb => by rw [← ha]; exact World.cell?_of_block (hb pm rfl)) (by simpa using hm) Try.call70
    (fun c wr h0 h1 hk hi' => by
      have q1 := hk.some hl hpl
      have q2 := hk.some hh hph
      have q3 : wr.frozen? ⟨pm, 0, none⟩ = false := (hk.frozen _).trans hz
      have n0 := hN p0
      have n1 := hN p1
      have n2 := hN p2
      obtain rfl | rfl | rfl : c = 0 ∨ c = 1 ∨ c = 2 := by omega
      · exact (clip1_any 0 p0 lo hi _ pl ph pm wr (by simp) (by simp) q1 q2 hi' q3).mono fun e w'' ⟨a, b, d⟩ => ⟨_, a, cl_limP _ _ _, b, by show w''.cell? _ = _; rw [d]; simp⟩
      · exact (clip1_any 1 p1 lo hi _ pl ph pm wr (by simp; omega) (by simp; omega) q1 q2 hi' q3).mono fun e w'' ⟨a, b, d⟩ => ⟨_, a, cl_limP _ _ _, b, by show w''.cell? _ = _; rw [d]; simp⟩
      · exact (clip1_any 2 p2 lo hi _ pl ph pm wr (by simp; omega) (by simp; omega) q1 q2 hi' q3).mono fun e w'' ⟨a, b, d⟩ => ⟨_, a, cl_limP _ _ _, b, by show w''.cell? _ = _; rw [d]; simp⟩)
  exact h.mono fun e w' ⟨a, b, d⟩ => ⟨a, b, by simpa using d⟩
end Go.Proofs.Ytfphhlodfieopaa
