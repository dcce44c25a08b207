/- Floors of singles that are no less than 0, and a whole double made a single. Conditions: none. -/
import Derived.Test.YtkmganophcklgaaPm
import Derived.Test.YtkmganophcklgaaMw
namespace Go.Proofs.Ytkmganophcklgaa
open Go.RowKit
open Fl Fr

theorem gap_div (n d : Nat) : n / (1 <<< min d (n.log2 + 2)) = n / 2 ^ d := by
  rw [Nat.one_shiftLeft]
  rcases Nat.le_total d (n.log2 + 2) with h | h
  · rw [Nat.min_eq_left h]
  · rw [Nat.min_eq_right h]
    have h1 : n < 2 ^ (n.log2 + 2) := Nat.lt_of_lt_of_le Nat.lt_log2_self (Nat.pow_le_pow_right (by decide) (by omega))
    rw [Nat.div_eq_of_lt h1, Nat.div_eq_of_lt (Nat.lt_of_lt_of_le h1 (Nat.pow_le_pow_right (by decide) h))]
theorem cut_zero (n d : Nat) : Ieee.Toward.zero.cut false n d = n / 2 ^ d := by
  unfold Ieee.Toward.cut
  simp only [Bool.toNat_false, Nat.add_zero]
  exact gap_div n d
theorem cut_down (n d : Nat) : Ieee.Toward.down.cut false n d = n / 2 ^ d := by
  unfold Ieee.Toward.cut
  simp only [Bool.false_and, Bool.toNat_false, Nat.add_zero]
  exact gap_div n d
/-- The whole part of a number that is no less than 0. -/
def flN (m : Nat) (e : Int) : Nat := (m <<< e.toNat) / 2 ^ (-e).toNat
theorem flN_spec (m : Nat) (e : Int) : ((flN m e : Nat) : Rat) ≤ mv m e ∧ mv m e < ((flN m e + 1 : Nat) : Rat) := by
  unfold flN
  rw [Nat.shiftLeft_eq]
  have e1 : mv (m * 2 ^ e.toNat) (-((-e).toNat : Int)) = mv m e := by rw [mv_shift]; congr 1; omega
  have e2 : ∀ X : Nat, mv (X * 2 ^ (-e).toNat) (-((-e).toNat : Int)) = (X : Rat) := by
    intro X; rw [mv_shift]
    have : -((-e).toNat : Int) + ((-e).toNat : Int) = 0 := by omega
    rw [this]; unfold mv; rw [p2_zero]; grind
  rw [← e1, ← e2, ← e2]
  exact ⟨mv_le (Nat.div_mul_le_self _ _) _, mv_lt (by rw [Nat.add_mul, Nat.one_mul]; exact Nat.lt_div_mul_add (Nat.two_pow_pos _)) _⟩
theorem flN_unique {m n : Nat} {e i : Int} (h : mv m e = mv n i) : flN m e = flN n i := by
  have a := flN_spec m e
  have b := flN_spec n i
  rw [h] at a
  have c1 : ((flN m e : Nat) : Rat) < ((flN n i + 1 : Nat) : Rat) := by grind
  have c2 : ((flN n i : Nat) : Rat) < ((flN m e + 1 : Nat) : Rat) := by grind
  have c1 := Rat.natCast_lt_natCast.1 c1
  have c2 := Rat.natCast_lt_natCast.1 c2
  omega
theorem flN_le {m : Nat} {e : Int} {K : Nat} (h : mv m e < (K : Rat)) : flN m e < K := by
  have a := (flN_spec m e).1
  exact Rat.natCast_lt_natCast.1 (by grind)
theorem toI_flN {k : FloatKind} {b m : Nat} {e : Int} (h : k.decode b = .number false m e) (hK : flN m e ≤ 16777216) : floatToIntVal k b .i64 = some (flN m e : Int) := by
  unfold floatToIntVal
  rw [h]
  have : (Ieee.Datum.number false m e).toInt .zero = some (flN m e : Int) := by
    unfold Ieee.Datum.toInt Ieee.Datum.integral
    dsimp only
    rw [cut_zero]
    unfold Ieee.signed flN
    simp
  rw [this]
  dsimp only
  rw [if_pos ⟨show (-9223372036854775808 : Int) ≤ _ by omega, show _ ≤ (9223372036854775807 : Int) by omega⟩]
/-- archFloor of a double that is a number and no less than 0. -/
theorem run_floor {P : Program} (w : World) (nm : String) {b m : Nat} {e : Int} (h : FloatKind.f64.decode b = .number false m e) :
    (Extern.MathFloor.toIntegral nm .down #[.float .f64 b]).run P w = .ok (.float .f64 (FloatKind.f64.encode (.number false (flN m e) 0))) w := by
  change Sem.run P (match FloatKind.f64.decode b with
    | .nan s t =>
      if FloatKind.f64.format.quiet t = t then pure (Value.float .f64 b) else do
      let kept ← choose (.extern "math.Floor,Ceil,Trunc,RoundToEven.signallingNaN kept" 2)
      pure (Value.float .f64 (if kept == 1 then b else FloatKind.f64.encode (.nan s (FloatKind.f64.format.quiet t))))
    | d => pure (Value.float .f64 (FloatKind.f64.encode (d.integral .down)))) w = _
  simp only [h]
  rw [Sem.run_pure]
  unfold Ieee.Datum.integral
  dsimp only
  rw [cut_down]
  rfl
/-- A whole double, made a single. -/
theorem run_toF_whole {P : Program} (w : World) (src dst : TypeId) {b M c : Nat} {Q : Int} (hs : (P.underlying src).isSome = true) (hd : P.underlying dst = some (.float .f32)) (h : FloatKind.f64.decode b = .number false M Q) (hv : mv M Q = (c : Rat)) (hc : c ≤ 16777216) :
    (convert src dst (.float .f64 b)).run P w = .ok (.float .f32 (floatOfInt .f32 (c : Int))) w := by
  obtain ⟨u, hs'⟩ := Option.isSome_iff_exists.1 hs
  have e1 : FloatKind.f32.encode (.number false M Q) = floatOfInt .f32 (c : Int) := by
    unfold floatOfInt FloatKind.nearest FloatKind.encode Ieee.Format.write
    dsimp only
    rw [show decide ((c : Int) < 0) = false from decide_eq_false (by omega), Int.natAbs_natCast]
    exact nearest_congr _ _ (by rw [hv]; unfold mv; rw [p2_zero]; grind)
  have key : (Conv.floatToFloat .f64 b .f32).run P w = .ok (.float .f32 (floatOfInt .f32 (c : Int))) w := by
    unfold Conv.floatToFloat
    rw [if_neg (by decide)]
    simp only [h]
    rw [e1]
    obtain ⟨M', P', h3, -⟩ := ofInt_val .f32 (c : Int) (by omega)
    rw [h3]
    rfl
  cases u <;> simp [convert, run_underlying hs', run_underlying hd, key]
theorem whole_dec (c : Nat) (hc : c ≤ 16777215) : ∃ M Q, FloatKind.f64.decode (FloatKind.f64.encode (.number false c 0)) = .number false M Q ∧ mv M Q = (c : Rat) := by
  have hv : mv c 0 = (c : Rat) := by unfold mv; rw [p2_zero]; grind
  by_cases h0 : c = 0
  · subst h0
    unfold FloatKind.decode FloatKind.encode Ieee.Format.write
    dsimp only
    rw [nearest_zero, read_zero]
    exact ⟨_, _, rfl, by unfold mv; simp⟩
  · have hl : c.log2 < 24 := log2_lt_of h0 (by omega)
    have := nearest_exact FloatKind.f64.format false c 0 h0 (by simp [FloatKind.format, Ieee.double]; omega) (by decide) (by simp [FloatKind.format, Ieee.double, Ieee.Format.leastPlace]; omega) (by decide)
    obtain ⟨M', P', h3, h4⟩ := this
    exact ⟨M', P', h3, by rw [h4, hv]⟩

theorem run_call_archfloor {b m : Nat} {e : Int} (h : FloatKind.f64.decode b = .number false m e) (w : World) :
    (callFunc 130 #[.float .f64 b]).run Try.prog w = .ok (.value (.float .f64 (FloatKind.f64.encode (.number false (flN m e) 0)))) w := by
  have h2 := run_callFunc_extern (e := Extern.MathFloor.toIntegral "math.archFloor" .down) Try.func130 (by kernel_rfl) (by kernel_rfl) (by kernel_rfl) (by kernel_rfl) #[.float .f64 b] w
  rw [h2, run_floor w _ h]; rfl

set_option linter.unusedSimpArgs false in
set_option linter.unusedVariables false in
set_option maxHeartbeats 4000000 in
set_option maxRecDepth 100000 in
theorem mathfloor_any {b m : Nat} {e : Int} (h : FloatKind.f64.decode b = .number false m e) (w : World) :
    Calls Try.prog 128 #[.float .f64 b] w fun e' w' => e' = .returned (.float .f64 (FloatKind.f64.encode (.number false (flN m e) 0))) ∧ w = w' := by
  have hf := fun w => run_call_archfloor h w
  clear h
  go_enter Try.func128, Try.ntmps128
  go_wp2_with fail
  go_ret
  exact ⟨rfl, rfl⟩

set_option linter.unusedSimpArgs false in
set_option linter.unusedVariables false in
set_option maxHeartbeats 4000000 in
set_option maxRecDepth 100000 in
theorem numfloor_any {b m : Nat} {e : Int} (h : FloatKind.f32.decode b = .number false m e) (hK : flN m e ≤ 16777215) (w : World) :
    Calls Try.prog 118 #[.float .f32 b] w fun e' w' => e' = .returned (.float .f32 (floatOfInt .f32 (flN m e : Int))) ∧ w = w' := by
  obtain ⟨M, Q, h1, h2⟩ := dC_num h
  have h3 := flN_unique h2
  obtain ⟨M', Q', h4, h5⟩ := whole_dec (flN m e) hK
  have hnn := nan_of_num h
  have d1 : ∀ w, toD b w = dC b := fun w => toD_not hnn w
  have d2 : toDN b = 0 := toDN_not hnn
  have hc := fun w => run_toF_whole (P := Try.prog) w 75 22 (by kernel_rfl) Try.underlying22 h4 h5 (by omega)
  have HF := Lib.hid (fun w => mathfloor_any h1 w)
  rw [h3] at HF
  generalize FloatKind.f64.encode (.number false (flN m e) 0) = B at *
  generalize floatOfInt .f32 (flN m e : Int) = R at *
  clear h h1 h2 h3 h4 h5 hK hnn
  go_enter Try.func118, Try.ntmps118
  go_wp2_with (first
    | (go_at_call 128; refine (HF.out _).mono ?_; rintro e' w' ⟨rfl, rfl⟩))
  go_ret
  exact ⟨rfl, rfl⟩
end Go.Proofs.Ytkmganophcklgaa
