/- Laws on floats for the walk: each operation gives a value that is fixed up to which NaN it is; the world is the same but for draws. Conditions: none. -/
import Derived.WalkKit
import Derived.WalkSpells
import Derived.WalkLawsBesides
import Derived.Deep.QuietTactic
import Derived.BigQuiet
import Derived.Lib.Hide
import Derived.Test.YtflmfjimemhooaaFr
namespace Go.Proofs.Ytflmfjimemhooaa.Fl
open Go
open Fr

/-- Is it a NaN? -/
def nan (k : FloatKind) (b : Nat) : Bool := (k.format.read b).isNaN
/-- The NaN of a kind. -/
def qn : FloatKind → Nat
  | .f32 => 0x7fc00000
  | .f64 => 0x7ff8000000000000
/-- The bits, with one NaN for all. -/
def cl (k : FloatKind) (b : Nat) : Nat := if nan k b then qn k else b

theorem nan_qn (k : FloatKind) : nan k (qn k) = true := by cases k <;> decide +kernel
theorem cl_nan {k : FloatKind} {b : Nat} (h : nan k b = true) : cl k b = qn k := by simp [cl, h]
theorem cl_not {k : FloatKind} {b : Nat} (h : nan k b = false) : cl k b = b := by simp [cl, h]
theorem nan_cl (k : FloatKind) (b : Nat) : nan k (cl k b) = nan k b := by
  unfold cl
  split
  · rw [nan_qn]; simp [*]
  · rfl
theorem cl_cl (k : FloatKind) (b : Nat) : cl k (cl k b) = cl k b := by
  cases h : nan k b
  · simp [cl, h]
  · rw [cl_nan h, cl_nan (nan_qn k)]

theorem read_nan {k : FloatKind} {b : Nat} (h : nan k b = true) : ∃ s f, k.format.read b = .nan s f := by
  unfold nan Ieee.Datum.isNaN at h
  cases e : k.format.read b <;> simp_all

theorem sum_nan_l {d e : Ieee.Datum} (h : ∃ s f, d = .nan s f) : d.sum e = none := by
  obtain ⟨s, f, rfl⟩ := h; cases e <;> rfl
theorem sum_nan_r {d e : Ieee.Datum} (h : ∃ s f, e = .nan s f) : d.sum e = none := by
  obtain ⟨s, f, rfl⟩ := h; cases d <;> rfl
theorem prod_nan_l {d e : Ieee.Datum} (h : ∃ s f, d = .nan s f) : d.product e = none := by
  obtain ⟨s, f, rfl⟩ := h; cases e <;> rfl
theorem prod_nan_r {d e : Ieee.Datum} (h : ∃ s f, e = .nan s f) : d.product e = none := by
  obtain ⟨s, f, rfl⟩ := h; cases d <;> rfl
theorem quo_nan_l {n : Nat} {d e : Ieee.Datum} (h : ∃ s f, d = .nan s f) : d.quotient n e = none := by
  obtain ⟨s, f, rfl⟩ := h; cases e <;> rfl
theorem quo_nan_r {n : Nat} {d e : Ieee.Datum} (h : ∃ s f, e = .nan s f) : d.quotient n e = none := by
  obtain ⟨s, f, rfl⟩ := h; cases d <;> rfl
theorem order_nan_l {d e : Ieee.Datum} (h : ∃ s f, d = .nan s f) : d.order e = none := by
  obtain ⟨s, f, rfl⟩ := h; cases e <;> rfl
theorem order_nan_r {d e : Ieee.Datum} (h : ∃ s f, e = .nan s f) : d.order e = none := by
  obtain ⟨s, f, rfl⟩ := h; cases d <;> rfl
theorem opp_nan {d : Ieee.Datum} (h : ∃ s f, d = .nan s f) : ∃ s f, d.opposite = .nan s f := by
  obtain ⟨s, f, rfl⟩ := h; exact ⟨_, _, rfl⟩

theorem bits_nan_l {op : BinOp} {k : FloatKind} {x y : Nat} (h : nan k x = true) : floatBits op k x y = none := by
  have h := read_nan h
  cases op <;> simp [floatBits, Ieee.Format.add, Ieee.Format.sub, Ieee.Format.mul, Ieee.Format.div, sum_nan_l h, prod_nan_l h, quo_nan_l h]
theorem bits_nan_r {op : BinOp} {k : FloatKind} {x y : Nat} (h : nan k y = true) : floatBits op k x y = none := by
  have h := read_nan h
  cases op <;> simp [floatBits, Ieee.Format.add, Ieee.Format.sub, Ieee.Format.mul, Ieee.Format.div, sum_nan_r h, sum_nan_r (opp_nan h), prod_nan_r h, quo_nan_r h]

/-- The operation, NaNs all one. -/
def fC (op : BinOp) (k : FloatKind) (x y : Nat) : Nat := cl k ((floatBits op k x y).getD (qn k))
/-- What it gives in a world. -/
def fV (op : BinOp) (k : FloatKind) (x y : Nat) (w : World) : Nat :=
  (floatBits op k x y).getD ((Question.nanBits k x y).cut (w.tape w.drawn (.nanBits k x y)))
/-- How often it asks. -/
def fN (op : BinOp) (k : FloatKind) (x y : Nat) : Nat := if (floatBits op k x y).isSome then 0 else 1

theorem lor_pos (a : Nat) : 0 < 2 ^ a := Nat.two_pow_pos a
theorem nan32 {b : Nat} (h : 0x7f800000 < b % 0x80000000) : nan .f32 b = true := by
  unfold nan Ieee.Format.read Ieee.Datum.isNaN
  have e1 : FloatKind.f32.format.signWeight = 0x80000000 := by decide
  have e2 : FloatKind.f32.format.binade = 0x800000 := by decide
  have e3 : FloatKind.f32.format.infRung = 0x7f800000 := by decide
  simp only [e1, e2, e3]
  rw [if_neg (by omega), if_neg (by omega), if_neg (by omega)]
theorem nan64 {b : Nat} (h : 0x7ff0000000000000 < b % 0x8000000000000000) : nan .f64 b = true := by
  unfold nan Ieee.Format.read Ieee.Datum.isNaN
  have e1 : FloatKind.f64.format.signWeight = 0x8000000000000000 := by decide
  have e2 : FloatKind.f64.format.binade = 0x10000000000000 := by decide
  have e3 : FloatKind.f64.format.infRung = 0x7ff0000000000000 := by decide
  simp only [e1, e2, e3]
  rw [if_neg (by omega), if_neg (by omega), if_neg (by omega)]
theorem nan_cut (k : FloatKind) (x y t : Nat) : nan k ((Question.nanBits k x y).cut t) = true := by
  cases k
  · apply nan32; simp only [Question.cut]; rcases Nat.mod_two_eq_zero_or_one t with h | h <;> rw [h] <;> omega
  · apply nan64; simp only [Question.cut]; rcases Nat.mod_two_eq_zero_or_one t with h | h <;> rw [h] <;> omega
theorem nan_cutc (k : FloatKind) (x t : Nat) : nan k ((Question.nanConv k x).cut t) = true := by
  cases k
  · apply nan32; simp only [Question.cut]; rcases Nat.mod_two_eq_zero_or_one t with h | h <;> rw [h] <;> omega
  · apply nan64; simp only [Question.cut]; rcases Nat.mod_two_eq_zero_or_one t with h | h <;> rw [h] <;> omega

theorem cl_fV (op : BinOp) (k : FloatKind) (x y : Nat) (w : World) : cl k (fV op k x y w) = fC op k (cl k x) (cl k y) := by
  unfold fC fV
  cases hx : nan k x
  · cases hy : nan k y
    · rw [cl_not hx, cl_not hy]
      cases floatBits op k x y with
      | some r => rfl
      | none => simp only [Option.getD_none]; rw [cl_nan (nan_cut ..), cl_nan (nan_qn k)]
    · rw [bits_nan_r hy, cl_nan hy, bits_nan_r (nan_qn k)]
      simp only [Option.getD_none]; rw [cl_nan (nan_cut ..), cl_nan (nan_qn k)]
  · rw [bits_nan_l hx, cl_nan hx, bits_nan_l (nan_qn k)]
    simp only [Option.getD_none]; rw [cl_nan (nan_cut ..), cl_nan (nan_qn k)]
theorem cl_fC (op : BinOp) (k : FloatKind) (x y : Nat) : cl k (fC op k x y) = fC op k x y := cl_cl _ _
theorem fC_cl (op : BinOp) (k : FloatKind) (x y : Nat) : fC op k (cl k x) (cl k y) = fC op k x y := by
  unfold fC
  cases hx : nan k x
  · cases hy : nan k y
    · rw [cl_not hx, cl_not hy]
    · rw [bits_nan_r hy, cl_nan hy, bits_nan_r (nan_qn k)]
  · rw [bits_nan_l hx, cl_nan hx, bits_nan_l (nan_qn k)]
theorem fC_cl_l (op : BinOp) (k : FloatKind) (x y : Nat) : fC op k (cl k x) y = fC op k x y := by
  rw [← fC_cl, cl_cl, fC_cl]
theorem fC_cl_r (op : BinOp) (k : FloatKind) (x y : Nat) : fC op k x (cl k y) = fC op k x y := by
  rw [← fC_cl, cl_cl, fC_cl]
theorem fC_fV_l (op o2 : BinOp) (k : FloatKind) (x y z : Nat) (w : World) : fC op k (fV o2 k x y w) z = fC op k (fC o2 k x y) z := by
  rw [← fC_cl_l, cl_fV, fC_cl]
theorem fC_fV_r (op o2 : BinOp) (k : FloatKind) (x y z : Nat) (w : World) : fC op k z (fV o2 k x y w) = fC op k z (fC o2 k x y) := by
  rw [← fC_cl_r, cl_fV, fC_cl]
theorem cl_fV' (op : BinOp) (k : FloatKind) (x y : Nat) (w : World) : cl k (fV op k x y w) = fC op k x y := by rw [cl_fV, fC_cl]

theorem order_cl (k : FloatKind) (x y : Nat) : k.format.order (cl k x) (cl k y) = k.format.order x y := by
  unfold Ieee.Format.order
  cases hx : nan k x
  · cases hy : nan k y
    · rw [cl_not hx, cl_not hy]
    · rw [cl_nan hy, order_nan_r (read_nan (nan_qn k)), order_nan_r (read_nan hy)]
  · rw [cl_nan hx, order_nan_l (read_nan (nan_qn k)), order_nan_l (read_nan hx)]
theorem order_cl_l (k : FloatKind) (x y : Nat) : k.format.order (cl k x) y = k.format.order x y := by rw [← order_cl, cl_cl, order_cl]
theorem order_cl_r (k : FloatKind) (x y : Nat) : k.format.order x (cl k y) = k.format.order x y := by rw [← order_cl, cl_cl, order_cl]
theorem order_fV_l (o : BinOp) (k : FloatKind) (x y z : Nat) (w : World) : k.format.order (fV o k x y w) z = k.format.order (fC o k x y) z := by
  rw [← order_cl_l, cl_fV']
theorem order_fV_r (o : BinOp) (k : FloatKind) (x y z : Nat) (w : World) : k.format.order z (fV o k x y w) = k.format.order z (fC o k x y) := by
  rw [← order_cl_r, cl_fV']

theorem drewN_zero (w : World) : w.drewN 0 = w := rfl

section
variable {P : Program} (w : World)
theorem run_arith (op : BinOp) (t : TypeId) (k : FloatKind) (x y : Nat) (ho : op = .add ∨ op = .sub ∨ op = .mul ∨ op = .quo) :
    (binOp op t (.float k x) (.float k y)).run P w = .ok (.float k (fV op k x y w)) (w.drewN (fN op k x y)) := by
  unfold fV fN
  cases h : floatBits op k x y with
  | some r => rw [run_float_arith w op t k x y r h]; rfl
  | none =>
    unfold floatBits at h
    rcases ho with rfl | rfl | rfl | rfl <;> simp only at h <;> simp [binOp, Op.floatArith, h, choose, Sem.run, Question.forced, World.drewN]
theorem run_add (t : TypeId) (k : FloatKind) (x y : Nat) : (binOp .add t (.float k x) (.float k y)).run P w = .ok (.float k (fV .add k x y w)) (w.drewN (fN .add k x y)) := run_arith w _ _ _ _ _ (by simp)
theorem run_sub (t : TypeId) (k : FloatKind) (x y : Nat) : (binOp .sub t (.float k x) (.float k y)).run P w = .ok (.float k (fV .sub k x y w)) (w.drewN (fN .sub k x y)) := run_arith w _ _ _ _ _ (by simp)
theorem run_mul (t : TypeId) (k : FloatKind) (x y : Nat) : (binOp .mul t (.float k x) (.float k y)).run P w = .ok (.float k (fV .mul k x y w)) (w.drewN (fN .mul k x y)) := run_arith w _ _ _ _ _ (by simp)
theorem run_quo (t : TypeId) (k : FloatKind) (x y : Nat) : (binOp .quo t (.float k x) (.float k y)).run P w = .ok (.float k (fV .quo k x y w)) (w.drewN (fN .quo k x y)) := run_arith w _ _ _ _ _ (by simp)

end

/-- float64 of a float32. -/
def toD (b : Nat) (w : World) : Nat :=
  match FloatKind.f32.decode b with
  | .nan _ _ => (Question.nanConv .f64 b).cut (w.tape w.drawn (.nanConv .f64 b))
  | d => FloatKind.f64.encode d
def toDN (b : Nat) : Nat := if nan .f32 b then 1 else 0
def dC (b : Nat) : Nat := if nan .f32 b then qn .f64 else FloatKind.f64.encode (FloatKind.f32.decode b)

/-- A single, made a double: the same number. -/
theorem toD_num {s : Bool} {m : Nat} {e : Int} {b : Nat} (h : FloatKind.f32.decode b = .number s m e) : ∃ M P, FloatKind.f64.decode (FloatKind.f64.encode (.number s m e)) = .number s M P ∧ mv M P = mv m e := by
  have h := read_number _ h
  have e1 : FloatKind.f32.format.leastPlace = -149 := by decide
  have e2 : FloatKind.f32.format.binade = 8388608 := by decide
  have e3 : ((2 ^ FloatKind.f32.format.exponentBits : Nat) : Int) = 256 := by decide
  have e4 : FloatKind.f64.format.leastPlace = -1074 := by decide
  have e5 : ((2 ^ FloatKind.f64.format.exponentBits : Nat) : Int) = 2048 := by decide
  have e6 : FloatKind.f64.format.fractionBits = 52 := by decide
  have e7 : FloatKind.f64.format.exponentBits = 11 := by decide
  rw [e1, e2, e3] at h
  unfold FloatKind.decode FloatKind.encode Ieee.Format.write
  dsimp only
  by_cases hm : m = 0
  · subst hm
    rw [nearest_zero, read_zero]
    exact ⟨0, _, rfl, by unfold mv; simp⟩
  · have hl : m.log2 < 24 := log2_lt_of hm (by omega)
    refine nearest_exact _ s m e hm ?_ ?_ ?_ ?_ <;> omega

theorem num_fits (s : Bool) (m : Nat) (e : Int) (b : Nat) (h : FloatKind.f32.decode b = .number s m e) : (FloatKind.f64.decode (FloatKind.f64.encode (.number s m e))).isInfinity = false := by
  obtain ⟨M, P, h, -⟩ := toD_num h
  rw [h]; rfl

theorem run_toD {P : Program} (w : World) (src dst : TypeId) (b : Nat) (hs : (P.underlying src).isSome = true) (hd : P.underlying dst = some (.float .f64)) :
    (convert src dst (.float .f32 b)).run P w = .ok (.float .f64 (toD b w)) (w.drewN (toDN b)) := by
  obtain ⟨u, hs'⟩ := Option.isSome_iff_exists.1 hs
  have key : (Conv.floatToFloat .f32 b .f64).run P w = .ok (.float .f64 (toD b w)) (w.drewN (toDN b)) := by
    unfold Conv.floatToFloat toD toDN nan
    cases e : FloatKind.f32.decode b with
    | number s m x =>
      have e2 : FloatKind.f32.format.read b = .number s m x := e
      have h := num_fits s m x b e
      simp only [e2]
      simp [h, Ieee.Datum.isNaN]
      rfl
    | infinity s =>
      have e2 : FloatKind.f32.format.read b = .infinity s := e
      simp only [e2]
      simp [Ieee.Datum.isNaN]
      rfl
    | nan s f =>
      have e2 : FloatKind.f32.format.read b = .nan s f := e
      simp only [e2]
      simp [Ieee.Datum.isNaN, choose, Sem.run, Question.forced, World.drewN]
  cases u <;> simp [convert, run_underlying hs', run_underlying hd, key]

/-- RoundToEven of a float64. -/
def rneV (b : Nat) (w : World) : Nat :=
  match FloatKind.f64.decode b with
  | .nan s t => if FloatKind.f64.format.quiet t = t then b else if (Question.extern "math.Floor,Ceil,Trunc,RoundToEven.signallingNaN kept" 2).cut (w.tape w.drawn (.extern "math.Floor,Ceil,Trunc,RoundToEven.signallingNaN kept" 2)) == 1 then b else FloatKind.f64.encode (.nan s (FloatKind.f64.format.quiet t))
  | d => FloatKind.f64.encode (d.integral .even)
def rneN (b : Nat) : Nat :=
  match FloatKind.f64.decode b with
  | .nan _ t => if FloatKind.f64.format.quiet t = t then 0 else 1
  | _ => 0
theorem run_rne {P : Program} (w : World) (nm : String) (b : Nat) :
    (Extern.MathFloor.toIntegral nm .even #[.float .f64 b]).run P w = .ok (.float .f64 (rneV b w)) (w.drewN (rneN b)) := by
  change Sem.run P (match FloatKind.f64.decode b with
    | .nan s t =>
      if FloatKind.f64.format.quiet t = t then pure (Value.float .f64 b) else do
      let kept ← choose (.extern "math.Floor,Ceil,Trunc,RoundToEven.signallingNaN kept" 2)
      pure (Value.float .f64 (if kept == 1 then b else FloatKind.f64.encode (.nan s (FloatKind.f64.format.quiet t))))
    | d => pure (Value.float .f64 (FloatKind.f64.encode (d.integral .even)))) w = _
  unfold rneV rneN
  cases e : FloatKind.f64.decode b with
  | number s m x => rfl
  | infinity s => rfl
  | nan s t =>
    dsimp only
    by_cases hq : FloatKind.f64.format.quiet t = t
    · rw [if_pos hq, if_pos hq, if_pos hq]; rfl
    · rw [if_neg hq, if_neg hq, if_neg hq]; simp [choose, Sem.run, Question.forced, World.drewN]

/-- An integer of a float. -/
def toI (k : FloatKind) (b : Nat) (d : IntKind) (w : World) : Int :=
  match floatToIntVal k b d with
  | some z => z
  | none => d.wrap ((Question.floatToInt k b d).cut (w.tape w.drawn (.floatToInt k b d)))
def toIN (k : FloatKind) (b : Nat) (d : IntKind) : Nat := if (floatToIntVal k b d).isSome then 0 else 1
theorem run_toI {P : Program} (w : World) (src dst : TypeId) (k : FloatKind) (d : IntKind) (b : Nat) (hs : (P.underlying src).isSome = true) (hd : P.underlying dst = some (.int d)) :
    (convert src dst (.float k b)).run P w = .ok (.int d (toI k b d w)) (w.drewN (toIN k b d)) := by
  unfold toI toIN
  cases h : floatToIntVal k b d with
  | some n => rw [run_convert_float_int w src dst k d b n hs hd h]; rfl
  | none =>
    obtain ⟨u, hs'⟩ := Option.isSome_iff_exists.1 hs
    unfold floatToIntVal at h
    have key : (Conv.floatToInt k b d).run P w = .ok (.int d (d.wrap ((Question.floatToInt k b d).cut (w.tape w.drawn (.floatToInt k b d))))) (w.drewN 1) := by
      unfold Conv.floatToInt
      split at h
      · rename_i m e
        split at h
        · cases h
        · rename_i hb
          rw [e]; simp [hb, choose, Sem.run, Question.forced, World.drewN]
      · rename_i e
        rw [e]; simp [choose, Sem.run, Question.forced, World.drewN]
    cases u <;> simp [convert, run_underlying hs', run_underlying hd, key]
theorem toI_some {k : FloatKind} {b : Nat} {d : IntKind} {z : Int} (h : floatToIntVal k b d = some z) (w : World) : toI k b d w = z := by unfold toI; rw [h]
theorem toIN_some {k : FloatKind} {b : Nat} {d : IntKind} {z : Int} (h : floatToIntVal k b d = some z) : toIN k b d = 0 := by unfold toIN; rw [h]; rfl

/-! ### Where there is no NaN -/
theorem read_cases (k : FloatKind) (b : Nat) (h : nan k b = false) : (∃ s m e, k.decode b = .number s m e) ∨ ∃ s, k.decode b = .infinity s := by
  unfold nan Ieee.Datum.isNaN at h
  unfold FloatKind.decode
  cases e : k.format.read b with
  | number s m x => exact .inl ⟨s, m, x, rfl⟩
  | infinity s => exact .inr ⟨s, rfl⟩
  | nan s f => rw [e] at h; cases h

theorem toD_not {b : Nat} (h : nan .f32 b = false) (w : World) : toD b w = dC b := by
  unfold toD dC
  rw [h, if_neg Bool.false_ne_true]
  rcases read_cases .f32 b h with ⟨s, m, e, he⟩ | ⟨s, he⟩ <;> simp only [he]
theorem toDN_not {b : Nat} (h : nan .f32 b = false) : toDN b = 0 := by simp [toDN, h]

theorem decode_inf (k : FloatKind) (s : Bool) : k.decode (k.encode (.infinity s)) = .infinity s := by
  cases k <;> exact read_inf _ s (by decide)

/-- The double of a single that is a number. -/
theorem dC_num {b : Nat} {s : Bool} {m : Nat} {e : Int} (h : FloatKind.f32.decode b = .number s m e) : ∃ M P, FloatKind.f64.decode (dC b) = .number s M P ∧ mv M P = mv m e := by
  have hn : nan .f32 b = false := by
    have h2 : FloatKind.f32.format.read b = .number s m e := h
    unfold nan; rw [h2]; rfl
  obtain ⟨M, P, h1, h2⟩ := toD_num h
  exact ⟨M, P, by unfold dC; rw [hn]; simp only [Bool.false_eq_true, if_false]; rw [h]; exact h1, h2⟩
theorem dC_inf {b : Nat} {s : Bool} (h : FloatKind.f32.decode b = .infinity s) : FloatKind.f64.decode (dC b) = .infinity s := by
  have hn : nan .f32 b = false := by
    have h2 : FloatKind.f32.format.read b = .infinity s := h
    unfold nan; rw [h2]; rfl
  unfold dC; rw [hn]; simp only [Bool.false_eq_true, if_false]; rw [h]; exact decode_inf _ _
theorem nan_of_num {k : FloatKind} {b : Nat} {s : Bool} {m : Nat} {e : Int} (h : k.decode b = .number s m e) : nan k b = false := by
  have h2 : k.format.read b = .number s m e := h
  unfold nan; rw [h2]; rfl
theorem nan_of_inf {k : FloatKind} {b : Nat} {s : Bool} (h : k.decode b = .infinity s) : nan k b = false := by
  have h2 : k.format.read b = .infinity s := h
  unfold nan; rw [h2]; rfl
theorem nan_dC {b : Nat} (h : nan .f32 b = false) : nan .f64 (dC b) = false := by
  rcases read_cases .f32 b h with ⟨s, m, e, he⟩ | ⟨s, he⟩
  · obtain ⟨M, P, h1, -⟩ := dC_num he; exact nan_of_num h1
  · exact nan_of_inf (dC_inf he)

/-- RoundToEven of a double that is no NaN. -/
def rC (b : Nat) : Nat := FloatKind.f64.encode ((FloatKind.f64.decode b).integral .even)
theorem rneV_not {b : Nat} (h : nan .f64 b = false) (w : World) : rneV b w = rC b := by
  unfold rneV rC
  rcases read_cases .f64 b h with ⟨s, m, e, he⟩ | ⟨s, he⟩ <;> simp only [he]
theorem rneN_not {b : Nat} (h : nan .f64 b = false) : rneN b = 0 := by
  unfold rneN
  rcases read_cases .f64 b h with ⟨s, m, e, he⟩ | ⟨s, he⟩ <;> simp only [he]

theorem write_not_nan (k : FloatKind) (s : Bool) (m : Nat) (e : Int) : nan k (k.encode (.number s m e)) = false := by
  unfold nan FloatKind.encode Ieee.Format.write
  dsimp only
  have hi : k.format.binade ≤ k.format.infRung := by cases k <;> decide
  by_cases hm : m = 0
  · subst hm; rw [nearest_zero, read_zero]; rfl
  · obtain ⟨q, kept, -, hn, k1, k2, -⟩ := nearest_spec k.format s m e hm
    rw [hn]
    by_cases h : q * k.format.binade + kept < k.format.infRung
    · obtain ⟨M, P, r1, -⟩ := read_rung k.format s q kept k1 k2 h
      rw [Nat.min_eq_left (Nat.le_of_lt h), r1]; rfl
    · rw [Nat.min_eq_right (Nat.le_of_not_lt h), read_inf _ _ hi]; rfl
theorem nan_rC {b : Nat} (h : nan .f64 b = false) : nan .f64 (rC b) = false := by
  unfold rC
  rcases read_cases .f64 b h with ⟨s, m, e, he⟩ | ⟨s, he⟩
  · rw [he]; exact write_not_nan _ _ _ _
  · rw [he]; exact nan_of_inf (decode_inf _ s)

theorem order_self (k : FloatKind) (b : Nat) : k.format.order b b = if nan k b then none else some .eq := by
  cases h : nan k b with
  | true => simp only [if_true]; unfold Ieee.Format.order; rw [order_nan_l (read_nan h)]
  | false =>
    simp only [Bool.false_eq_true, if_false]
    unfold Ieee.Format.order
    rcases read_cases k b h with ⟨s, m, e, he⟩ | ⟨s, he⟩
    · have he : k.format.read b = _ := he
      rw [he, order_eq]
    · have he : k.format.read b = _ := he
      rw [he]; cases s <;> rfl

theorem mv_pow (m : Nat) (e : Int) (n : Nat) (x : Int) (h : m = 2 ^ n) (h2 : e + n = x) : mv m e = mv 1 x := by
  rw [h, ← h2]
  have := mv_shift 1 e n
  rwa [Nat.one_mul] at this
/-- A whole number that a float kind has. -/
theorem ofInt_val (k : FloatKind) (n : Int) (h : n.natAbs ≤ 16777216) : ∃ M P, k.decode (floatOfInt k n) = .number (n < 0) M P ∧ mv M P = (n.natAbs : Rat) := by
  unfold floatOfInt FloatKind.nearest FloatKind.decode FloatKind.encode Ieee.Format.write
  dsimp only
  by_cases hm : n.natAbs = 0
  · rw [hm, nearest_zero, read_zero]; exact ⟨0, _, rfl, by unfold mv; simp⟩
  · by_cases h2 : n.natAbs = 16777216
    · rw [h2]
      have e : mv 16777216 0 = mv 1 24 := mv_pow 16777216 0 24 24 (by decide +kernel) (by omega)
      have c1 : mv 8388608 1 = mv 1 24 := mv_pow 8388608 1 23 24 (by decide +kernel) (by omega)
      have c2 : mv 4503599627370496 (-28) = mv 1 24 := mv_pow 4503599627370496 (-28) 52 24 (by decide +kernel) (by omega)
      have : ∃ M P, k.format.read (k.format.nearest (decide (n < 0)) 16777216 0) = .number (decide (n < 0)) M P ∧ mv M P = mv 1 24 := by
        cases k <;> cases decide (n < 0)
        · exact ⟨8388608, 1, by decide +kernel, c1⟩
        · exact ⟨8388608, 1, by decide +kernel, c1⟩
        · exact ⟨4503599627370496, -28, by decide +kernel, c2⟩
        · exact ⟨4503599627370496, -28, by decide +kernel, c2⟩
      obtain ⟨M, P, h3, h4⟩ := this
      exact ⟨M, P, h3, by rw [h4, ← e]; unfold mv; rw [p2_zero]; grind⟩
    · have hl : n.natAbs.log2 < 24 := log2_lt_of hm (by omega)
      have := nearest_exact k.format (decide (n < 0)) n.natAbs 0 hm (by cases k <;> simp [FloatKind.format, Ieee.single, Ieee.double] <;> omega) (by cases k <;> decide)
        (by cases k <;> simp [FloatKind.format, Ieee.single, Ieee.double, Ieee.Format.leastPlace] <;> omega) (by cases k <;> decide)
      obtain ⟨M, P, h3, h4⟩ := this
      exact ⟨M, P, h3, by rw [h4]; unfold mv; rw [p2_zero]; grind⟩
theorem ofInt_rv (k : FloatKind) (n : Int) (h : n.natAbs ≤ 16777216) : ∃ s M P, k.decode (floatOfInt k n) = .number s M P ∧ rv (.number s M P) = (n : Rat) := by
  obtain ⟨M, P, h1, h2⟩ := ofInt_val k n h
  refine ⟨_, M, P, h1, ?_⟩
  unfold rv; dsimp only; rw [h2]
  by_cases hn : n < 0
  · simp only [hn, decide_true, if_true]
    have : ((n.natAbs : Nat) : Rat) = ((-n : Int) : Rat) := by rw [← Rat.intCast_natCast]; congr 1; omega
    rw [this, Rat.intCast_neg]; grind
  · simp only [hn, decide_false, Bool.false_eq_true, if_false]
    rw [← Rat.intCast_natCast]; congr 1; omega

/-- Cut towards zero, no further from zero than it was. -/
theorem toInt_zero_le {s : Bool} {m : Nat} {e : Int} {K : Nat} (h : mv m e ≤ (K : Rat)) : ∃ z : Int, (Ieee.Datum.number s m e).toInt .zero = some z ∧ z.natAbs ≤ K := by
  refine ⟨_, rfl, ?_⟩
  have hc : Ieee.Toward.zero.cut s (m <<< e.toNat) (-e).toNat ≤ (m <<< e.toNat) / 2 ^ (-e).toNat := by
    unfold Ieee.Toward.cut
    dsimp only
    simp only [Bool.toNat_false, Nat.add_zero, Nat.one_shiftLeft]
    by_cases hd : (-e).toNat ≤ (m <<< e.toNat).log2 + 2
    · rw [Nat.min_eq_left hd]; exact Nat.le_refl _
    · rw [Nat.min_eq_right (by omega)]
      have h0 : (m <<< e.toNat) / 2 ^ ((m <<< e.toNat).log2 + 2) = 0 := by
        apply Nat.div_eq_of_lt
        exact Nat.lt_trans Nat.lt_log2_self (Nat.pow_lt_pow_right (by decide) (by omega))
      rw [h0]; exact Nat.zero_le _
  generalize Ieee.Toward.zero.cut s (m <<< e.toNat) (-e).toNat = c at *
  have habs : (Ieee.signed s c 0).natAbs = c := by unfold Ieee.signed; cases s <;> simp
  rw [habs]
  refine Nat.le_trans hc ?_
  rw [Nat.shiftLeft_eq]
  -- over 2 ^ (-e).toNat
  have h1 : mv (m * 2 ^ e.toNat) (0 - ((-e).toNat : Int)) = mv m e := by rw [mv_shift]; congr 1; omega
  have h2 : mv (K * 2 ^ (-e).toNat) (0 - ((-e).toNat : Int)) = (K : Rat) := by
    rw [mv_shift]; unfold mv
    have : (0 - ((-e).toNat : Int) + ((-e).toNat : Int)) = 0 := by omega
    rw [this, p2_zero]; grind
  rw [← h1, ← h2] at h
  have := mv_le_iff.1 h
  exact Nat.div_le_of_le_mul (by rw [Nat.mul_comm _ K]; exact this)

theorem rv_abs {s : Bool} {m : Nat} {e : Int} {K : Nat} (h1 : rv (.number s m e) ≤ (K : Rat)) (h2 : -(K : Rat) ≤ rv (.number s m e)) : mv m e ≤ (K : Rat) := by
  unfold rv at h1 h2
  cases s <;> simp at h1 h2 <;> grind

/-- What lies between two whole numbers is converted to an integer. -/
theorem toInt_between {b : Nat} {lo hi : Int} (hlo : lo.natAbs ≤ 16777216) (hhi : hi.natAbs ≤ 16777216) (hn : nan .f64 b = false)
    (h1 : (FloatKind.f64.format.order b (floatOfInt .f64 lo) == some .lt) = false) (h2 : (FloatKind.f64.format.order b (floatOfInt .f64 hi) == some .gt) = false) :
    ∃ z : Int, floatToIntVal .f64 b .i64 = some z ∧ z.natAbs ≤ 16777216 := by
  obtain ⟨s1, M1, P1, a1, a2⟩ := ofInt_rv .f64 lo hlo
  obtain ⟨s2, M2, P2, b1, b2⟩ := ofInt_rv .f64 hi hhi
  have a1 : FloatKind.f64.format.read (floatOfInt .f64 lo) = _ := a1
  have b1 : FloatKind.f64.format.read (floatOfInt .f64 hi) = _ := b1
  unfold Ieee.Format.order at h1 h2
  rw [a1] at h1
  rw [b1] at h2
  rcases read_cases .f64 b hn with ⟨s, m, e, he⟩ | ⟨s, he⟩
  · have he' : FloatKind.f64.format.read b = _ := he
    rw [he'] at h1 h2
    have n1 : ¬ rv (.number s m e) < (lo : Rat) := by rw [← a2, ← order_lt]; simpa using h1
    have n2 : ¬ (hi : Rat) < rv (.number s m e) := by rw [← b2, ← order_gt]; simpa using h2
    have q1 : (lo : Rat) ≥ -((16777216 : Nat) : Rat) := by
      have : ((-16777216 : Int) : Rat) ≤ (lo : Rat) := Rat.intCast_le_intCast.2 (by omega)
      simpa using this
    have q2 : (hi : Rat) ≤ ((16777216 : Nat) : Rat) := by
      have : (hi : Rat) ≤ ((16777216 : Int) : Rat) := Rat.intCast_le_intCast.2 (by omega)
      simpa using this
    obtain ⟨z, hz, hz2⟩ := toInt_zero_le (s := s) (rv_abs (K := 16777216) (s := s) (m := m) (e := e) (by grind) (by grind))
    refine ⟨z, ?_, hz2⟩
    unfold floatToIntVal
    rw [he, hz]
    dsimp only
    rw [if_pos ⟨show (-9223372036854775808 : Int) ≤ z by omega, show z ≤ (9223372036854775807 : Int) by omega⟩]
  · have he' : FloatKind.f64.format.read b = _ := he
    rw [he'] at h1 h2
    cases s
    · exact absurd h2 (by simp [Ieee.Datum.order])
    · exact absurd h1 (by simp [Ieee.Datum.order])

/-- The nearest integer within bounds. -/
def nearP (b : Nat) (lo hi : Int) : Int × Bool :=
  if nan .f32 b then (lo, false)
  else if FloatKind.f64.format.order (rC (dC b)) (floatOfInt .f64 lo) == some .lt then (lo, false)
  else if FloatKind.f64.format.order (rC (dC b)) (floatOfInt .f64 hi) == some .gt then (hi, false)
  else ((floatToIntVal .f64 (rC (dC b)) .i64).getD 0, true)
end Go.Proofs.Ytflmfjimemhooaa.Fl
