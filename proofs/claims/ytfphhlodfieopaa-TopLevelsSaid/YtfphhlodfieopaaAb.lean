/- The magnitude of a single: contracts of num.Abs and AbsOf. Conditions: none. -/
import Derived.Test.YtfphhlodfieopaaSr
namespace Go.Proofs.Ytfphhlodfieopaa
open Go.RowKit
open Fl Fr

theorem run_call_bits64 (b : Nat) (w : World) :
    (callFunc 100 #[.float .f64 b]).run Try.prog w = .ok (.value (.int .u64 b)) w := by
  have h := run_callFunc_extern (e := Extern.MathFloatBits.float64bits) Try.func100 (by kernel_rfl) (by kernel_rfl) (by kernel_rfl) (by kernel_rfl) #[.float .f64 b] w
  rw [h]; rfl
theorem run_call_from64 (n : Int) (w : World) : (callFunc 99 #[.int .u64 n]).run Try.prog w = .ok (.value (.float .f64 n.toNat)) w := by
  have h := run_callFunc_extern (e := Extern.MathFloatBits.float64frombits) Try.func99 (by kernel_rfl) (by kernel_rfl) (by kernel_rfl) (by kernel_rfl) #[.int .u64 n] w
  rw [h]; rfl
attribute [go_sem] run_call_bits64 run_call_from64

/-- The magnitude of a double. -/
def aD (b : Nat) : Nat := (bits .andNot .u64 (b : Int) 9223372036854775808).toNat
set_option maxHeartbeats 400000 in
theorem abs_any (b : Nat) (w : World) : Calls Try.prog 57 #[.float .f64 b] w fun e w' => e = .returned (.float .f64 (aD b)) ∧ w = w' := by
  unfold aD
  go_enter Try.func57, Try.ntmps57
  go_wp2
  go_ret
  exact ⟨rfl, rfl⟩
theorem aD_lt (b : Nat) (h : b < 2 ^ 64) : aD b = b % 9223372036854775808 := by
  unfold aD
  have h1 : (BitVec.ofInt 64 (b : Int)).toNat = b := by rw [BitVec.ofInt_natCast, BitVec.toNat_ofNat]; omega
  have h2 : (~~~(BitVec.ofInt 64 9223372036854775808)).toNat = 2 ^ 63 - 1 := by decide
  have h3 : bits .andNot .u64 (b : Int) 9223372036854775808 = IntKind.u64.wrap ((BitVec.ofInt 64 (b : Int) &&& ~~~(BitVec.ofInt 64 9223372036854775808)).toNat : Nat) := rfl
  have h4 : ∀ n : Int, IntKind.u64.wrap n = n % 18446744073709551616 := fun n => by simp [IntKind.wrap, IntKind.bits, IntKind.signed]
  rw [h3, BitVec.toNat_and, h1, h2, h4, Nat.and_two_pow_sub_one_eq_mod]
  omega

theorem nearest_sign (f : Ieee.Format) (s : Bool) (m : Nat) (e : Int) : f.nearest s m e = f.word s (f.nearest false m e) := by
  unfold Ieee.Format.nearest Ieee.Format.word
  by_cases hm : m = 0
  · simp [hm]
  · rw [if_neg hm, if_neg hm]; cases s <;> rfl
theorem rung_lt (f : Ieee.Format) (m : Nat) (e : Int) : f.nearest false m e < f.signWeight := by
  have h := f.infRung_lt
  unfold Ieee.Format.nearest Ieee.Format.word
  by_cases hm : m = 0
  · simp [hm]; exact Nat.two_pow_pos _
  · rw [if_neg hm]; simp only [Bool.false_eq_true, if_false]; omega
/-- A number's magnitude, read. -/
theorem aD_dC {b : Nat} {s : Bool} {m : Nat} {e : Int} (h : FloatKind.f32.decode b = .number s m e) : ∃ M P, FloatKind.f64.decode (aD (dC b)) = .number false M P ∧ mv M P = mv m e := by
  have hd : dC b = FloatKind.f64.format.nearest s m e := by
    unfold dC; rw [nan_of_num h, if_neg Bool.false_ne_true, h]; rfl
  have hl := rung_lt FloatKind.f64.format m e
  have hsw : FloatKind.f64.format.signWeight = 9223372036854775808 := by decide
  have ha : aD (dC b) = FloatKind.f64.format.nearest false m e := by
    rw [hd, nearest_sign, aD_lt]
    · unfold Ieee.Format.word; rw [hsw] at hl ⊢; cases s <;> simp <;> omega
    · unfold Ieee.Format.word; rw [hsw] at hl ⊢; cases s <;> simp <;> omega
  rw [ha]
  have h2 := read_number _ (show FloatKind.f32.format.read b = _ from h)
  have e1 : FloatKind.f32.format.leastPlace = -149 := by decide
  have e2 : FloatKind.f32.format.binade = 8388608 := by decide
  have e3 : ((2 ^ FloatKind.f32.format.exponentBits : Nat) : Int) = 256 := by decide
  have e4 : FloatKind.f64.format.leastPlace = -1074 := by decide
  have e5 : ((2 ^ FloatKind.f64.format.exponentBits : Nat) : Int) = 2048 := by decide
  have e6 : FloatKind.f64.format.fractionBits = 52 := by decide
  have e7 : FloatKind.f64.format.exponentBits = 11 := by decide
  rw [e1, e2, e3] at h2
  by_cases hm : m = 0
  · subst hm
    unfold FloatKind.decode
    rw [nearest_zero, read_zero]
    exact ⟨0, _, rfl, by unfold mv; simp⟩
  · have hl : m.log2 < 24 := log2_lt_of hm (by omega)
    refine nearest_exact _ false m e hm ?_ ?_ ?_ ?_ <;> omega
theorem aD_inf {b : Nat} {s : Bool} (h : FloatKind.f32.decode b = .infinity s) : FloatKind.f64.decode (aD (dC b)) = .infinity false := by
  have hd : dC b = FloatKind.f64.encode (.infinity s) := by
    unfold dC; rw [nan_of_inf h, if_neg Bool.false_ne_true, h]
  rw [hd]
  cases s <;> decide +kernel

/-- What a single is read as. -/
theorem read32 (b : Nat) : FloatKind.f32.decode b = if b % 2147483648 < 8388608 then .number (b / 2147483648 % 2 == 1) (b % 2147483648) (-149)
    else if b % 2147483648 < 2139095040 then .number (b / 2147483648 % 2 == 1) (8388608 + b % 2147483648 % 8388608) (-149 + (b % 2147483648 / 8388608 - 1 : Nat))
    else if b % 2147483648 = 2139095040 then .infinity (b / 2147483648 % 2 == 1) else .nan (b / 2147483648 % 2 == 1) (b % 2147483648 - 2139095040) := by
  unfold FloatKind.decode Ieee.Format.read
  have e1 : FloatKind.f32.format.signWeight = 0x80000000 := by decide
  have e2 : FloatKind.f32.format.binade = 0x800000 := by decide
  have e3 : FloatKind.f32.format.infRung = 0x7f800000 := by decide
  have e4 : FloatKind.f32.format.leastPlace = -149 := by decide
  simp only [e1, e2, e3, e4]


theorem nan_aD {b : Nat} (h : nan .f64 b = true) : nan .f64 (aD b) = true := by
  have key : ∀ c : Nat, c % 9223372036854775808 = b % 9223372036854775808 → nan .f64 c = true := fun c hc => by
    unfold nan Ieee.Format.read at *
    have e1 : FloatKind.f64.format.signWeight = 9223372036854775808 := by decide
    simp only [e1] at *
    rw [hc]
    split at h
    · cases h
    · split at h
      · cases h
      · split at h
        · cases h
        · rename_i h1 h2 h3
          rw [if_neg h1, if_neg h2, if_neg h3]
          rfl
  refine key _ ?_
  unfold aD
  have h1 : (BitVec.ofInt 64 (b : Int)).toNat = b % 2 ^ 64 := by rw [BitVec.ofInt_natCast, BitVec.toNat_ofNat]
  have h2 : (~~~(BitVec.ofInt 64 9223372036854775808)).toNat = 2 ^ 63 - 1 := by decide
  have h3 : bits .andNot .u64 (b : Int) 9223372036854775808 = IntKind.u64.wrap ((BitVec.ofInt 64 (b : Int) &&& ~~~(BitVec.ofInt 64 9223372036854775808)).toNat : Nat) := rfl
  have h4 : ∀ n : Int, IntKind.u64.wrap n = n % 18446744073709551616 := fun n => by simp [IntKind.wrap, IntKind.bits, IntKind.signed]
  rw [h3, BitVec.toNat_and, h1, h2, h4, Nat.and_two_pow_sub_one_eq_mod]
  omega
/-- The magnitude of a single, as AbsOf has it. -/
theorem and31 (b : Nat) : (bits .andNot .u32 (b : Int) 2147483648).toNat = b % 2147483648 := by
  have h1 : (BitVec.ofInt 32 (b : Int)).toNat = b % 2 ^ 32 := by rw [BitVec.ofInt_natCast, BitVec.toNat_ofNat]
  have h2 : (~~~(BitVec.ofInt 32 2147483648)).toNat = 2 ^ 31 - 1 := by decide
  have h3 : bits .andNot .u32 (b : Int) 2147483648 = IntKind.u32.wrap ((BitVec.ofInt 32 (b : Int) &&& ~~~(BitVec.ofInt 32 2147483648)).toNat : Nat) := rfl
  have h4 : ∀ n : Int, IntKind.u32.wrap n = n % 4294967296 := fun n => by simp [IntKind.wrap, IntKind.bits, IntKind.signed]
  rw [h3, BitVec.toNat_and, h1, h2, h4, Nat.and_two_pow_sub_one_eq_mod]
  omega
theorem mod31_nan {b : Nat} (h : nan .f32 b = true) : nan .f32 (b % 2147483648) = true := by
  have hh : (FloatKind.f32.decode b).isNaN = true := h
  show (FloatKind.f32.decode (b % 2147483648)).isNaN = true
  rw [read32] at hh ⊢
  rw [Nat.mod_mod]
  split at hh
  · cases hh
  · split at hh
    · cases hh
    · split at hh
      · cases hh
      · rename_i h1 h2 h3
        rw [if_neg h1, if_neg h2, if_neg h3]
        rfl
theorem mod31_num {b : Nat} {s : Bool} {m : Nat} {e : Int} (h : FloatKind.f32.decode b = .number s m e) : FloatKind.f32.decode (b % 2147483648) = .number false m e := by
  have hz : b % 2147483648 / 2147483648 % 2 = 0 := by omega
  rw [read32] at h ⊢
  rw [Nat.mod_mod, hz]
  split at h
  · rename_i h1
    injection h with _ h4 h5
    subst h4 h5
    rw [if_pos h1]; rfl
  · rename_i h1
    split at h
    · rename_i h2
      injection h with _ h4 h5
      subst h4 h5
      rw [if_neg h1, if_pos h2]; rfl
    · split at h <;> cases h
theorem mod31_inf {b : Nat} {s : Bool} (h : FloatKind.f32.decode b = .infinity s) : FloatKind.f32.decode (b % 2147483648) = .infinity false := by
  have hz : b % 2147483648 / 2147483648 % 2 = 0 := by omega
  rw [read32] at h ⊢
  rw [Nat.mod_mod, hz]
  split at h
  · cases h
  · rename_i h1
    split at h
    · cases h
    · rename_i h2
      split at h
      · rename_i h3
        rw [if_neg h1, if_neg h2, if_pos h3]; rfl
      · cases h
/-- Is the magnitude less? -/
def ltA (b l : Nat) : Bool := FloatKind.f32.format.order (b % 2147483648) l == some .lt
theorem ltA_cl (b l : Nat) : ltA (cl .f32 b) l = ltA b l := by
  unfold ltA
  cases h : nan .f32 b with
  | false => rw [cl_not h]
  | true =>
    have e1 : FloatKind.f32.format.order (b % 2147483648) l = none := order_nan_l (read_nan (mod31_nan h))
    have e2 : FloatKind.f32.format.order (cl .f32 b % 2147483648) l = none := by
      rw [cl_nan h]
      exact order_nan_l (read_nan (mod31_nan (nan_qn .f32)))
    rw [e1, e2]

/-- The magnitude of a single, as num.Abs has it. -/
def absN (b : Nat) : Nat := if nan .f32 b then qn .f32 else FloatKind.f32.encode (FloatKind.f64.decode (aD (dC b)))
theorem absN_num {b : Nat} {s : Bool} {m : Nat} {e : Int} (h : FloatKind.f32.decode b = .number s m e) : ∃ M P, FloatKind.f64.decode (aD (dC b)) = .number false M P ∧ ∃ M2 P2, FloatKind.f32.decode (FloatKind.f32.encode (.number false M P)) = .number false M2 P2 ∧ mv M2 P2 = mv m e := by
  obtain ⟨M, P, h1, h2⟩ := aD_dC h
  refine ⟨M, P, h1, ?_⟩
  have e0 : FloatKind.f32.encode (.number false M P) = FloatKind.f32.format.nearest false m e := (nearest_congr FloatKind.f32.format false h2 : _)
  rw [e0]
  have hr := read_number _ (show FloatKind.f32.format.read b = _ from h)
  have e1 : FloatKind.f32.format.leastPlace = -149 := by decide
  have e2 : FloatKind.f32.format.binade = 8388608 := by decide
  have e3 : ((2 ^ FloatKind.f32.format.exponentBits : Nat) : Int) = 256 := by decide
  have e6 : FloatKind.f32.format.fractionBits = 23 := by decide
  have e7 : FloatKind.f32.format.exponentBits = 8 := by decide
  rw [e1, e2, e3] at hr
  by_cases hm : m = 0
  · subst hm
    unfold FloatKind.decode
    rw [nearest_zero, read_zero]
    exact ⟨0, _, rfl, by unfold mv; simp⟩
  · have hl : m.log2 < 24 := log2_lt_of hm (by omega)
    refine nearest_exact _ false m e hm ?_ ?_ ?_ ?_ <;> omega
theorem order_same {a b l : Nat} {s t : Bool} {m n : Nat} {i j : Int} (ha : FloatKind.f32.decode a = .number s m i) (hb : FloatKind.f32.decode b = .number t n j) (h : rv (.number s m i) = rv (.number t n j)) :
    (FloatKind.f32.format.order a l == some .lt) = (FloatKind.f32.format.order b l == some .lt) := by
  have ha' : FloatKind.f32.format.read a = _ := ha
  have hb' : FloatKind.f32.format.read b = _ := hb
  unfold Ieee.Format.order
  rw [ha', hb']
  cases hl : FloatKind.f32.format.read l with
  | nan s2 f2 => rfl
  | infinity s2 => rfl
  | number s2 m2 e2 =>
    rw [Bool.eq_iff_iff]
    simp only [beq_iff_eq]
    rw [order_lt, order_lt, h]
theorem absN_lt (b l : Nat) : (FloatKind.f32.format.order (absN b) l == some .lt) = ltA b l := by
  unfold ltA absN
  cases h : nan .f32 b with
  | true =>
    have e1 : FloatKind.f32.format.order (b % 2147483648) l = none := order_nan_l (read_nan (mod31_nan h))
    have e2 : FloatKind.f32.format.order (qn .f32) l = none := order_nan_l (read_nan (nan_qn .f32))
    rw [e1, if_pos rfl, e2]
  | false =>
    rw [if_neg Bool.false_ne_true]
    rcases read_cases .f32 b h with ⟨s, m, e, hd⟩ | ⟨s, hd⟩
    · obtain ⟨M, P, h1, M2, P2, h2, h3⟩ := absN_num hd
      rw [h1]
      refine order_same h2 (mod31_num hd) ?_
      unfold rv
      exact h3
    · rw [aD_inf hd]
      have a1 : FloatKind.f32.format.read (FloatKind.f32.encode (.infinity false)) = .infinity false := decode_inf _ _
      have a2 : FloatKind.f32.format.read (b % 2147483648) = .infinity false := mod31_inf hd
      unfold Ieee.Format.order
      rw [a1, a2]
theorem absN_run (b : Nat) (w w' : World) : cl .f32 (toS (aD (toD b w)) w') = absN b := by
  cases h : nan .f32 b with
  | true =>
    have h1 : nan .f64 (toD b w) = true := by
      obtain ⟨s, f, hd⟩ := read_nan h
      have hd : FloatKind.f32.decode b = .nan s f := hd
      unfold toD
      rw [hd]
      exact nan_cutc _ _ _
    obtain ⟨s, f, hd⟩ := read_nan (nan_aD h1)
    have hd : FloatKind.f64.decode (aD (toD b w)) = .nan s f := hd
    unfold toS absN
    rw [hd, h, if_pos rfl]
    exact cl_nan (nan_cutc _ _ _)
  | false =>
    rw [toD_not h]
    rcases read_cases .f32 b h with ⟨s, m, e, hd⟩ | ⟨s, hd⟩
    · obtain ⟨M, P, h1, M2, P2, h2, -⟩ := absN_num hd
      rw [(toS_num h1 h2 w').1, cl_not (nan_of_num h2)]
      unfold absN
      rw [h, if_neg Bool.false_ne_true, h1]
    · rw [(toS_inf (aD_inf hd) w').1, cl_not (nan_of_inf (decode_inf _ _))]
      unfold absN
      rw [h, if_neg Bool.false_ne_true, aD_inf hd]
set_option linter.unusedSimpArgs false in
set_option maxHeartbeats 1000000 in
theorem numabs_any (b : Nat) (w : World) : Calls Try.prog 81 #[.float .f32 b] w fun e w' => e = .returned (.float .f32 (absN b)) ∧ ∃ n, w' = w.drewN n := by
  go_enter Try.func81, Try.ntmps81
  go_wp2_with (first
    | (go_at_call 57; refine (abs_any _ _).mono ?_; rintro e w' ⟨rfl, rfl⟩)
    | (go_at_call 105; refine (clean_any _ _).mono ?_; rintro e w' ⟨rfl, rfl⟩)
    | fail)
  go_ret
  refine ⟨?_, _, rfl⟩
  exact congrArg (fun x => Ending.returned (Value.float .f32 x)) (absN_run b w _)
set_option linter.unusedSimpArgs false in
set_option maxHeartbeats 1000000 in
theorem absof_any (b : Nat) (w : World) : Calls Try.prog 82 #[.float .f32 b] w fun e w' => e = .returned (.float .f32 (b % 2147483648)) ∧ w = w' := by
  go_enter Try.func82, Try.ntmps82
  go_wp2
  go_ret
  exact ⟨by rw [and31]; rfl, rfl⟩
end Go.Proofs.Ytfphhlodfieopaa
