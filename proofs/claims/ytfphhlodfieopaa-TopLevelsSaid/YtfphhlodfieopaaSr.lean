/- Squares, their sums, and the root, as singles: deterministic. Conditions: none. -/
import Derived.Test.YtfphhlodfieopaaSq
import Derived.Test.YtfphhlodfieopaaG2
namespace Go.Proofs.Ytfphhlodfieopaa
open Go.RowKit
open Fl Fr

/-- From 0 on, and no -0. -/
def posR (b : Nat) : Prop := (∃ m e, FloatKind.f32.decode b = .number false m e) ∨ FloatKind.f32.decode b = .infinity false
theorem posR_nan {b : Nat} (h : posR b) : nan .f32 b = false := by
  rcases h with ⟨m, e, h⟩ | h
  · exact nan_of_num h
  · exact nan_of_inf h
theorem posR_near (m : Nat) (e : Int) : posR (FloatKind.f32.format.nearest false m e) := by
  rcases nearest_kind false m e with ⟨M, P, h⟩ | h
  · exact Or.inl ⟨M, P, h⟩
  · exact Or.inr h
theorem posR_inf : posR (FloatKind.f32.encode (.infinity false)) := Or.inr (decode_inf _ _)
theorem sq_pos {b : Nat} (h : nan .f32 b = false) : posR (fC .mul .f32 b b) := by
  rcases read_cases .f32 b h with ⟨s, m, e, he⟩ | ⟨s, he⟩
  · obtain ⟨h1, -, -⟩ := mul_num he he
    rw [h1, Bool.xor_self]
    exact posR_near _ _
  · have hr : FloatKind.f32.format.read b = _ := he
    have hb : floatBits .mul .f32 b b = some (FloatKind.f32.encode (.infinity false)) := by
      unfold floatBits Ieee.Format.mul; rw [hr]; cases s <;> rfl
    rw [fC_some hb (nan_of_inf (decode_inf _ _))]
    exact posR_inf
theorem add_pos {a b : Nat} (ha : posR a) (hb : posR b) : posR (fC .add .f32 a b) := by
  rcases ha with ⟨m, i, ha⟩ | ha <;> rcases hb with ⟨n, j, hb⟩ | hb
  · have h1 : FloatKind.f32.format.read a = _ := ha
    have h2 : FloatKind.f32.format.read b = _ := hb
    have hs : ∀ (m k : Nat), 0 ≤ Ieee.signed false m k := fun m k => by unfold Ieee.signed; simp; exact Int.natCast_nonneg _
    have hq : ∃ c e, floatBits .add .f32 a b = some (FloatKind.f32.format.write (.number false c e)) := by
      unfold floatBits Ieee.Format.add
      rw [h1, h2]
      unfold Ieee.Datum.sum
      dsimp only
      have a1 := hs m (i - min i j).toNat
      have a2 := hs n (j - min i j).toNat
      generalize Ieee.signed false m (i - min i j).toNat = A at *
      generalize Ieee.signed false n (j - min i j).toNat = B at *
      refine ⟨(A + B).natAbs, min i j, ?_⟩
      have h1 : ¬ (A + B < 0) := by omega
      simp [h1]
    obtain ⟨c, e, hq⟩ := hq
    rw [fC_some hq (write_not_nan .f32 _ _ _)]
    exact posR_near _ _
  all_goals
    have h1 : FloatKind.f32.format.read a = _ := ha
    have h2 : FloatKind.f32.format.read b = _ := hb
    have hq : floatBits .add .f32 a b = some (FloatKind.f32.encode (.infinity false)) := by
      unfold floatBits Ieee.Format.add; rw [h1, h2]; rfl
    rw [fC_some hq (nan_of_inf (decode_inf _ _))]
    exact posR_inf

/-- The root of a double, in a world. -/
def sqV (b : Nat) (w : World) : Nat := (FloatKind.f64.format.sqrt b).getD ((Question.nanBits .f64 b b).cut (w.tape w.drawn (.nanBits .f64 b b)))
def sqN (b : Nat) : Nat := if (FloatKind.f64.format.sqrt b).isSome then 0 else 1
theorem run_sqrt {P : Program} (w : World) (b : Nat) : (Extern.MathSqrt.sqrt #[.float .f64 b]).run P w = .ok (.float .f64 (sqV b w)) (w.drewN (sqN b)) := by
  change Sem.run P (match FloatKind.f64.format.sqrt b with
    | some r => pure (Value.float .f64 r)
    | none => do pure (Value.float .f64 (← choose (.nanBits .f64 b b)))) w = _
  unfold sqV sqN
  cases h : FloatKind.f64.format.sqrt b with
  | some r => rfl
  | none => simp [choose, Sem.run, Question.forced, World.drewN]
theorem run_call_sqrt (b : Nat) (w : World) :
    (callFunc 119 #[.float .f64 b]).run Try.prog w = .ok (.value (.float .f64 (sqV b w))) (w.drewN (sqN b)) := by
  have h := run_callFunc_extern (e := Extern.MathSqrt.sqrt) Try.func119 (by kernel_rfl) (by kernel_rfl) (by kernel_rfl) (by kernel_rfl) #[.float .f64 b] w
  rw [h, run_sqrt]; rfl
/-- A single of a double, in a world. -/
def toS (b : Nat) (w : World) : Nat :=
  match FloatKind.f64.decode b with
  | .nan _ _ => (Question.nanConv .f32 b).cut (w.tape w.drawn (.nanConv .f32 b))
  | .infinity s => FloatKind.f32.encode (.infinity s)
  | .number s m e => if (FloatKind.f32.decode (FloatKind.f32.encode (.number s m e))).isInfinity then (Question.floatToFloat b).cut (w.tape w.drawn (.floatToFloat b)) else FloatKind.f32.encode (.number s m e)
def toSN (b : Nat) : Nat :=
  match FloatKind.f64.decode b with
  | .nan _ _ => 1
  | .infinity _ => 0
  | .number s m e => if (FloatKind.f32.decode (FloatKind.f32.encode (.number s m e))).isInfinity then 1 else 0
theorem run_toS {P : Program} (w : World) (src dst : TypeId) (b : Nat) (hs : (P.underlying src).isSome = true) (hd : P.underlying dst = some (.float .f32)) :
    (convert src dst (.float .f64 b)).run P w = .ok (.float .f32 (toS b w)) (w.drewN (toSN b)) := by
  obtain ⟨u, hs'⟩ := Option.isSome_iff_exists.1 hs
  have key : (Conv.floatToFloat .f64 b .f32).run P w = .ok (.float .f32 (toS b w)) (w.drewN (toSN b)) := by
    unfold Conv.floatToFloat toS toSN
    cases e : FloatKind.f64.decode b with
    | number s m x =>
      dsimp only
      by_cases h : (FloatKind.f32.decode (FloatKind.f32.encode (.number s m x))).isInfinity = true
      · simp [h, choose, Sem.run, Question.forced, World.drewN]
      · simp [h]; rfl
    | infinity s => simp; rfl
    | nan s f => simp [choose, Sem.run, Question.forced, World.drewN]
  cases u <;> simp [convert, run_underlying hs', run_underlying hd, key]
attribute [go_sem] run_call_sqrt run_toS

/-- The root of a single, as a single. -/
def rtC (b : Nat) : Nat := FloatKind.f32.encode (FloatKind.f64.decode ((FloatKind.f64.format.sqrt (dC b)).getD 0))
theorem sqV_some {b R : Nat} (h : FloatKind.f64.format.sqrt b = some R) (w : World) : sqV b w = R := by unfold sqV; rw [h, Option.getD_some]
theorem sqN_some {b R : Nat} (h : FloatKind.f64.format.sqrt b = some R) : sqN b = 0 := by unfold sqN; rw [h]; simp
theorem toS_num {R : Nat} {s t : Bool} {M M2 : Nat} {P P2 : Int} (h2 : FloatKind.f64.decode R = .number s M P) (h3 : FloatKind.f32.decode (FloatKind.f32.encode (.number s M P)) = .number t M2 P2) (w : World) : toS R w = FloatKind.f32.encode (.number s M P) ∧ toSN R = 0 := by
  unfold toS toSN
  rw [h2]
  dsimp only
  rw [h3]
  simp [Ieee.Datum.isInfinity]
theorem toS_inf {R : Nat} {s : Bool} (h2 : FloatKind.f64.decode R = .infinity s) (w : World) : toS R w = FloatKind.f32.encode (.infinity s) ∧ toSN R = 0 := by
  unfold toS toSN
  rw [h2]
  exact ⟨rfl, rfl⟩
theorem rtC_some {b R : Nat} (h : FloatKind.f64.format.sqrt (dC b) = some R) : rtC b = FloatKind.f32.encode (FloatKind.f64.decode R) := by unfold rtC; rw [h, Option.getD_some]
/-- What the walk wants of a root. -/
theorem root_det {b : Nat} (h : posR b) : ∃ R, (∀ w, toD b w = dC b) ∧ toDN b = 0 ∧ (∀ w, sqV (dC b) w = R) ∧ sqN (dC b) = 0 ∧ (∀ w, toS R w = rtC b) ∧ toSN R = 0 ∧ posR (rtC b) := by
  have hn := posR_nan h
  rcases h with ⟨m, e, h⟩ | h
  · obtain ⟨R, M, P, h1, h2, M2, P2, h3⟩ := sqrt_num h
    have hr := rtC_some h1
    rw [h2] at hr
    exact ⟨R, fun w => toD_not hn w, toDN_not hn, sqV_some h1, sqN_some h1, fun w => by rw [hr]; exact (toS_num h2 h3 w).1, (toS_num h2 h3 default).2, by rw [hr]; exact Or.inl ⟨M2, P2, h3⟩⟩
  · have hd := dC_inf h
    obtain ⟨R, h1, h2⟩ : ∃ R, FloatKind.f64.format.sqrt (dC b) = some R ∧ FloatKind.f64.decode R = .infinity false := by
      refine ⟨FloatKind.f64.format.write (.infinity false), ?_, decode_inf .f64 false⟩
      unfold Ieee.Format.sqrt
      have hd' : FloatKind.f64.format.read (dC b) = _ := hd
      rw [hd']
      simp [Ieee.Datum.root]
    have hr := rtC_some h1
    rw [h2] at hr
    exact ⟨R, fun w => toD_not hn w, toDN_not hn, sqV_some h1, sqN_some h1, fun w => by rw [hr]; exact (toS_inf h2 w).1, (toS_inf h2 default).2, by rw [hr]; exact posR_inf⟩

theorem sqrt_any {b R : Nat} (w : World) (t3 : ∀ w, sqV b w = R) (t4 : sqN b = 0) : Calls Try.prog 95 #[.float .f64 b] w fun e w' => e = .returned (.float .f64 R) ∧ w = w' := by
  go_enter Try.func95, Try.ntmps95
  go_wp2
  go_ret
  exact ⟨rfl, rfl⟩
set_option maxHeartbeats 400000 in
theorem root_any (b : Nat) (w : World) (h : posR b) : Calls Try.prog 115 #[.float .f32 b] w fun e w' => e = .returned (.float .f32 (rtC b)) ∧ w = w' := by
  obtain ⟨R, t1, t2, t3, t4, t5, t6, t7⟩ := root_det h
  have hc := cl_not (posR_nan t7)
  have HP := Lib.hid h
  clear h t7
  go_enter Try.func115, Try.ntmps115
  go_wp2_with (first
    | (go_at_call 95; refine (sqrt_any _ t3 t4).mono ?_; rintro e w' ⟨rfl, rfl⟩)
    | (go_at_call 105; refine (clean_any _ _).mono ?_; rw [hc]; rintro e w' ⟨rfl, rfl⟩) | fail)
  go_ret
  exact ⟨rfl, rfl⟩
end Go.Proofs.Ytfphhlodfieopaa
