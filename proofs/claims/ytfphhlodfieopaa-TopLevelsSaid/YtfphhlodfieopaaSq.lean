/- The square root of a single: it is a single. Conditions: none. -/
import Derived.Test.YtfphhlodfieopaaPm
import Derived.Test.YtfphhlodfieopaaIs
import Derived.Test.YtfphhlodfieopaaMw
namespace Go.Proofs.Ytfphhlodfieopaa
open Go.RowKit
open Fl Fr

theorem rootFrom_lt (n : Nat) : ∀ (k r : Nat), Ieee.Datum.rootFrom n k r < r + 2 ^ k
  | 0, r => by simp [Ieee.Datum.rootFrom]
  | k + 1, r => by
    unfold Ieee.Datum.rootFrom
    dsimp only
    have e : 1 <<< k = 2 ^ k := Nat.one_shiftLeft k
    rw [Nat.pow_succ]
    split
    · have := rootFrom_lt n k (r + 1 <<< k)
      rw [e] at this ⊢
      omega
    · have := rootFrom_lt n k r
      have := Nat.two_pow_pos k
      omega
theorem mv_le_p2 {m n : Nat} {e K : Int} (h : m ≤ 2 ^ n) (hK : e + n ≤ K) : mv m e ≤ p2 K := by
  refine Rat.le_trans (mv_le h e) ?_
  have := mv_shift 1 e n
  rw [Nat.one_mul] at this
  rw [this]
  have e1 : mv 1 (e + n) = p2 (e + n) := by unfold mv; grind
  rw [e1]
  exact p2_le hK
theorem p2_lt_iff {a b : Int} (h : p2 a < p2 b) : a < b := by
  rcases Int.lt_or_le a b with h1 | h1
  · exact h1
  · have := p2_le h1; grind
/-- The root of a number that a single has. -/
theorem root_bd {m : Nat} {i : Int} (hm : mv m i ≤ mv 16777215 104) : ∃ M P, (Ieee.Datum.number false m i).root 54 = some (.number false M P) ∧ mv M P ≤ p2 100 := by
  unfold Ieee.Datum.root
  dsimp only
  by_cases h0 : m = 0
  · rw [if_pos h0]
    refine ⟨m, i, rfl, ?_⟩
    subst h0
    have : mv 0 i = 0 := by unfold mv; simp
    rw [this]
    exact Rat.le_of_lt (p2_pos _)
  · rw [if_neg h0, if_neg Bool.false_ne_true]
    have hL : (m.log2 : Int) + i < 128 := by
      have h1 : mv (2 ^ m.log2) i ≤ mv m i := mv_le (Nat.log2_self_le h0) i
      have h2 := mv_shift 1 i m.log2
      rw [Nat.one_mul] at h2
      have h3 : mv 1 (i + m.log2) = p2 (i + m.log2) := by unfold mv; grind
      have h4 : mv 16777215 104 < p2 128 := by decide +kernel
      have := p2_lt_iff (a := i + m.log2) (b := 128) (by rw [← h3, ← h2]; grind)
      omega
    generalize hmore : (2 * 54 - m.log2 + ((i - ((2 * 54 - m.log2 : Nat) : Int)) % 2).toNat) = more
    have hn : (m <<< more).log2 = m.log2 + more := by
      rw [Nat.shiftLeft_eq]
      have hp := Nat.two_pow_pos more
      have hne : m * 2 ^ more ≠ 0 := by have := Nat.mul_pos (Nat.pos_of_ne_zero h0) hp; omega
      have a1 : 2 ^ m.log2 ≤ m := Nat.log2_self_le h0
      have a2 : m < 2 ^ (m.log2 + 1) := Nat.lt_log2_self
      have b1 : m.log2 + more ≤ (m * 2 ^ more).log2 := (Nat.le_log2 hne).2 (by rw [Nat.pow_add]; exact Nat.mul_le_mul_right _ a1)
      have b2 : (m * 2 ^ more).log2 < m.log2 + more + 1 := (Nat.log2_lt hne).2 (by rw [show m.log2 + more + 1 = (m.log2 + 1) + more by omega, Nat.pow_add]; exact Nat.mul_lt_mul_of_pos_right a2 hp)
      omega
    rw [hn]
    have hw := rootFrom_lt (m <<< more) ((m.log2 + more) / 2 + 1) 0
    generalize Ieee.Datum.rootFrom (m <<< more) ((m.log2 + more) / 2 + 1) 0 = whole at hw ⊢
    refine ⟨_, _, rfl, mv_le_p2 (n := (m.log2 + more) / 2 + 2) ?_ ?_⟩
    · have e : 2 ^ ((m.log2 + more) / 2 + 2) = 2 * 2 ^ ((m.log2 + more) / 2 + 1) := by rw [show (m.log2 + more) / 2 + 2 = ((m.log2 + more) / 2 + 1) + 1 by omega, Nat.pow_succ]; omega
      rw [e]
      have hb : (whole * whole != m <<< more).toNat ≤ 1 := Bool.toNat_le _
      omega
    · omega

/-- The square root of a single that is a number from 0 on, as a single: a number. -/
theorem sqrt_num {b m : Nat} {e : Int} (h : FloatKind.f32.decode b = .number false m e) :
    ∃ R M P, FloatKind.f64.format.sqrt (dC b) = some R ∧ FloatKind.f64.decode R = .number false M P ∧ ∃ M2 P2, FloatKind.f32.decode (FloatKind.f32.encode (.number false M P)) = .number false M2 P2 := by
  obtain ⟨M0, P0, h1, h2⟩ := dC_num h
  have hb : mv M0 P0 ≤ mv 16777215 104 := by rw [h2]; exact num_max h
  obtain ⟨M1, P1, r1, r2⟩ := root_bd hb
  obtain ⟨M, P, s1, s2, -⟩ := near_rv (k := .f64) (s := false) (m := M1) (e := P1) 100 rfl r2 (by decide) (by decide)
  obtain ⟨M2, P2, t1, -, -⟩ := near_rv (k := .f32) (s := false) (m := M) (e := P) 100 rfl s2 (by decide) (by decide)
  refine ⟨_, M, P, ?_, s1, M2, P2, t1⟩
  unfold Ieee.Format.sqrt
  have h1' : FloatKind.f64.format.read (dC b) = _ := h1
  rw [h1']
  have e : FloatKind.f64.format.fractionBits + 2 = 54 := by decide
  rw [e, r1]
  rfl
end Go.Proofs.Ytfphhlodfieopaa
