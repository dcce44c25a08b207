/- The plain law of compressing: the two ways to tell an infinity agree. Conditions: none. -/
import Derived.Test.YtfphhlodfieopaaGy
namespace Go.Proofs.Ytfphhlodfieopaa
open Go Go.RowKit
open Fl Fr

/-- The nearest word is a number or an infinity, of the sign asked. -/
theorem nearest_kind (s : Bool) (m : Nat) (e : Int) : (∃ M P, FloatKind.f32.decode (FloatKind.f32.format.nearest s m e) = .number s M P) ∨ FloatKind.f32.decode (FloatKind.f32.format.nearest s m e) = .infinity s := by
  by_cases hm : m = 0
  · subst hm
    rw [nearest_zero]
    exact Or.inl ⟨_, _, read_zero _ s⟩
  · obtain ⟨q, kept, h1, h2, h3, h4, -⟩ := nearest_spec FloatKind.f32.format s m e hm
    rw [h2]
    by_cases hq : q * FloatKind.f32.format.binade + kept < FloatKind.f32.format.infRung
    · rw [Nat.min_eq_left (by omega)]
      obtain ⟨M, P, h5, -⟩ := read_rung FloatKind.f32.format s q kept h3 h4 hq
      exact Or.inl ⟨M, P, h5⟩
    · rw [Nat.min_eq_right (by omega)]
      exact Or.inr (read_inf _ s (by decide))
theorem nearest_ne {s : Bool} {m : Nat} {e : Int} (h : p2 (-149) ≤ mv m e) {M : Nat} {P : Int} (hd : FloatKind.f32.decode (FloatKind.f32.format.nearest s m e) = .number s M P) : M ≠ 0 := by
  have hp := p2_pos (-149)
  have hm : m ≠ 0 := by
    intro hm; subst hm
    unfold mv at h; simp at h; grind
  obtain ⟨q, kept, h1, h2, h3, h4, h5, -⟩ := nearest_spec FloatKind.f32.format s m e hm
  have hL : FloatKind.f32.format.leastPlace = -149 := by decide
  rw [h2] at hd
  by_cases hq : q * FloatKind.f32.format.binade + kept < FloatKind.f32.format.infRung
  · rw [Nat.min_eq_left (by omega)] at hd
    obtain ⟨M', P', h6, h7⟩ := read_rung FloatKind.f32.format s q kept h3 h4 hq
    have hd : FloatKind.f32.format.read _ = _ := hd
    rw [h6] at hd
    injection hd with _ e1 e2
    subst e1 e2
    intro h0
    rw [h0] at h7
    have h8 : mv kept (FloatKind.f32.format.leastPlace + q) = 0 := by rw [← h7]; unfold mv; simp
    have h9 : kept = 0 := by
      by_cases hk : kept = 0
      · exact hk
      · exfalso
        have : 0 < mv kept (FloatKind.f32.format.leastPlace + q) := by unfold mv; exact Rat.mul_pos (by exact_mod_cast Nat.pos_of_ne_zero hk) (p2_pos _)
        grind
    subst h9
    have hb : 0 < FloatKind.f32.format.binade := by decide
    have hq0 : q = 0 := by
      cases h4 with
      | inl h => exact h
      | inr h => omega
    subst hq0
    rw [hL] at h5
    have h10 : mv (2 * 0 + 1) (-149 + (0 : Nat)) = p2 (-149) := by unfold mv; simp
    rw [h10] at h5
    grind
  · rw [Nat.min_eq_right (by omega)] at hd
    have hd : FloatKind.f32.format.read _ = _ := hd
    rw [read_inf _ s (by decide)] at hd
    cases hd
/-- A number is a whole multiple of the least one. -/
theorem num_grid {b : Nat} {s : Bool} {m : Nat} {e : Int} (h : FloatKind.f32.decode b = .number s m e) : ∃ z : Int, rv (.number s m e) = (z : Rat) * p2 (-149) := by
  have h : FloatKind.f32.format.read b = _ := h
  obtain ⟨-, h2, -, -⟩ := read_number FloatKind.f32.format h
  have hL : FloatKind.f32.format.leastPlace = -149 := by decide
  exact ⟨_, signed_val s m e (-149) (by omega)⟩
theorem sub_pos {x y : Nat} {s t : Bool} {m n : Nat} {i j : Int} (hx : FloatKind.f32.decode x = .number s m i) (hy : FloatKind.f32.decode y = .number t n j) (hlt : rv (.number t n j) < rv (.number s m i)) :
    (∃ M P, FloatKind.f32.decode (fC .sub .f32 x y) = .number false M P ∧ M ≠ 0) ∨ FloatKind.f32.decode (fC .sub .f32 x y) = .infinity false := by
  obtain ⟨u, c, e, h1, h2, -⟩ := sub_num hx hy
  obtain ⟨z1, g1⟩ := num_grid hx
  obtain ⟨z2, g2⟩ := num_grid hy
  have hp := p2_pos (-149)
  have hz : z2 < z1 := by rw [g1, g2] at hlt; exact mul_p2_lt.1 hlt
  have hge : p2 (-149) ≤ rv (.number u c e) := by
    rw [h2, g1, g2]
    have hz1 : ((z2 + 1 : Int) : Rat) ≤ (z1 : Rat) := Rat.intCast_le_intCast.2 (by omega)
    have h3 := Rat.mul_le_mul_of_nonneg_right hz1 (Rat.le_of_lt hp)
    rw [Rat.intCast_add] at h3
    have h4 : ((1 : Int) : Rat) = 1 := rfl
    rw [h4] at h3
    grind
  have hc0 := mv_nonneg c e
  have hu : u = false := by
    cases u with
    | false => rfl
    | true => exfalso; unfold rv at hge; simp at hge; grind
  subst hu
  have hmv : p2 (-149) ≤ mv c e := by unfold rv at hge; simpa using hge
  rcases nearest_kind false c e with ⟨M, P, hd⟩ | hd
  · exact Or.inl ⟨M, P, by rw [h1]; exact hd, nearest_ne hmv hd⟩
  · exact Or.inr (by rw [h1]; exact hd)
theorem big_num {x : Nat} {M : Nat} {P : Int} (h : FloatKind.f32.decode x = .number false M P) : isN x = !(FloatKind.f32.format.order x 2139095039 == some .gt) := by
  have h1 := isN_prog x
  rw [isN_num h] at h1 ⊢
  have h2 : nan .f32 x = false ∧ (!(FloatKind.f32.format.order x 2139095039 == some .gt || FloatKind.f32.format.order x 4286578687 == some .lt)) = true := by rw [h1]
  have h3 := h2.2
  cases hb : FloatKind.f32.format.order x 2139095039 == some .gt
  · rfl
  · rw [hb] at h3; cases h3
theorem big_inf {x : Nat} (h : FloatKind.f32.decode x = .infinity false) : isN x = !(FloatKind.f32.format.order x 2139095039 == some .gt) := by
  rw [isN_inf h]
  have h : FloatKind.f32.format.read x = _ := h
  unfold Ieee.Format.order
  rw [h, dec_max]
  rfl
theorem quo_inf {x y : Nat} {m : Nat} {j : Int} (hx : FloatKind.f32.decode x = .infinity false) (hy : FloatKind.f32.decode y = .number false m j) : FloatKind.f32.decode (fC .quo .f32 x y) = .infinity false := by
  have hx : FloatKind.f32.format.read x = _ := hx
  have hy : FloatKind.f32.format.read y = _ := hy
  have hb : floatBits .quo .f32 x y = some (FloatKind.f32.format.write (.infinity false)) := by
    unfold floatBits Ieee.Format.div; rw [hx, hy]; rfl
  have hn : nan .f32 (FloatKind.f32.format.write (.infinity false)) = false := nan_of_inf (decode_inf .f32 false)
  rw [fC_some hb hn]
  exact decode_inf .f32 false
theorem sub_inf {x y : Nat} {s : Bool} {m : Nat} {j : Int} (hx : FloatKind.f32.decode x = .infinity false) (hy : FloatKind.f32.decode y = .number s m j) : FloatKind.f32.decode (fC .sub .f32 x y) = .infinity false := by
  have hx : FloatKind.f32.format.read x = _ := hx
  have hy : FloatKind.f32.format.read y = _ := hy
  have hb : floatBits .sub .f32 x y = some (FloatKind.f32.format.write (.infinity false)) := by
    unfold floatBits Ieee.Format.sub; rw [hx, hy]; rfl
  have hn : nan .f32 (FloatKind.f32.format.write (.infinity false)) = false := nan_of_inf (decode_inf .f32 false)
  rw [fC_some hb hn]
  exact decode_inf .f32 false

theorem comp_x {a v fr : Nat} (hf : isN fr = true) (h0 : (FloatKind.f32.format.order fr 0 == some .lt) = false)
    (h1 : (FloatKind.f32.format.order fr 1065353216 == some .gt || FloatKind.f32.format.order fr 1065353216 == some .eq) = false) (hg : (FloatKind.f32.format.order (cmpD a v) fr == some .gt) = true) :
    isN (cmpX a v fr) = !(FloatKind.f32.format.order (cmpX a v fr) 2139095039 == some .gt) := by
  obtain ⟨t, n, j, hd⟩ := isN_spec hf
  have hd' : FloatKind.f32.format.read fr = _ := hd
  have done1 : FloatKind.f32.decode 1065353216 = .number false 8388608 (-23) := dec_one
  have r1 : rv (.number false 8388608 (-23)) = 1 := by
    have := mv_pow 8388608 (-23) 23 0 (by decide) (by omega)
    unfold rv; simp only [Bool.false_eq_true, if_false]; rw [this]; unfold mv; rw [p2_zero]; simp
  -- 0 <= fr < 1
  have f0 : 0 ≤ rv (.number t n j) := by
    rw [beq_eq_false_iff_ne] at h0
    unfold Ieee.Format.order at h0
    rw [hd', dec_zero, ne_eq, order_lt, rv_zero] at h0
    grind
  have f1 : rv (.number t n j) < 1 := by
    rw [Bool.or_eq_false_iff, beq_eq_false_iff_ne, beq_eq_false_iff_ne] at h1
    unfold Ieee.Format.order at h1
    rw [hd', dec_one, ne_eq, ne_eq, order_gt, order_eq, r1] at h1
    grind
  -- 1 - fr
  obtain ⟨n', j', ht, hn'⟩ : ∃ M P, FloatKind.f32.decode (fC .sub .f32 1065353216 fr) = .number false M P ∧ M ≠ 0 := by
    rcases sub_pos done1 hd (by rw [r1]; exact f1) with ⟨M, P, e1, e2⟩ | e1
    · exact ⟨M, P, e1, e2⟩
    · exfalso
      obtain ⟨u, c, e, g1, g2, -⟩ := sub_num done1 hd
      have hle : mv c e ≤ p2 0 := by
        rw [p2_zero]
        have h := mv_nonneg c e
        rw [r1] at g2
        unfold rv at g2
        cases u <;> simp at g2 <;> unfold rv at f0 f1 <;> grind
      obtain ⟨M, P, g3, -⟩ := near_rv (k := .f32) 0 g1 hle (by decide) (by decide)
      rw [g3] at e1; cases e1
  -- D
  have hD : nan .f32 (cmpD a v) = false := by
    cases hn : nan .f32 (cmpD a v) with
    | false => rfl
    | true => unfold Ieee.Format.order at hg; rw [order_nan_l (read_nan hn)] at hg; cases hg
  have hS : (∃ M P, FloatKind.f32.decode (fC .sub .f32 (cmpD a v) fr) = .number false M P ∧ M ≠ 0) ∨ FloatKind.f32.decode (fC .sub .f32 (cmpD a v) fr) = .infinity false := by
    rcases read_cases .f32 _ hD with ⟨s, m, i, hm⟩ | ⟨s, hi⟩
    · refine sub_pos hm hd ?_
      have hm : FloatKind.f32.format.read _ = _ := hm
      rw [beq_iff_eq] at hg
      unfold Ieee.Format.order at hg
      rw [hm, hd', order_gt] at hg
      exact hg
    · have hs : s = false := by
        cases s with
        | false => rfl
        | true =>
          have hi : FloatKind.f32.format.read _ = _ := hi
          unfold Ieee.Format.order at hg
          rw [hi, hd'] at hg
          cases hg
      subst hs
      exact Or.inr (sub_inf hi hd)
  unfold cmpX
  rcases hS with ⟨M, P, e1, -⟩ | e1
  · obtain ⟨c, e, g1, -, g3⟩ := quo_num e1 ht hn'
    have hx : false ^^ false = false := rfl
    rcases nearest_kind (false ^^ false) c e with ⟨M', P', g4⟩ | g4
    · exact big_num (by rw [g1]; exact g4)
    · exact big_inf (by rw [g1]; exact g4)
  · exact big_inf (quo_inf e1 ht)

theorem comp_eq {p0 p1 p2 fr v : Nat} (hv : v = p0 ∨ v = p1 ∨ v = p2) (hf : isN fr = true) (h0 : (FloatKind.f32.format.order fr 0 == some .lt) = false)
    (h1 : (FloatKind.f32.format.order fr 1065353216 == some .gt || FloatKind.f32.format.order fr 1065353216 == some .eq) = false) :
    cmpP (maxP p0 p1 p2) v fr (staysP p0 p1 p2) = refQ p0 p1 p2 fr v := by
  unfold refQ cmpP
  cases hs : staysP p0 p1 p2 with
  | true => simp
  | false =>
    have hvn : isN v = true := by
      unfold staysP at hs
      simp at hs
      rcases hv with rfl | rfl | rfl
      all_goals simp [hs]
    unfold cmpQ
    cases hg : FloatKind.f32.format.order (cmpD (maxP p0 p1 p2) v) fr == some .gt with
    | false => simp [cl_isN hvn]
    | true =>
      have hx := comp_x hf h0 h1 hg
      unfold cmpY cmpZ
      rw [hx]
      cases FloatKind.f32.format.order (cmpX (maxP p0 p1 p2) v fr) 2139095039 == some .gt <;> simp

theorem ge_lt {b c : Nat} (hb : isN b = true) (hc : isN c = true) : (FloatKind.f32.format.order b c == some .gt || FloatKind.f32.format.order b c == some .eq) = !(FloatKind.f32.format.order b c == some .lt) := by
  obtain ⟨s, m, i, h1⟩ := isN_spec hb
  obtain ⟨t, n, j, h2⟩ := isN_spec hc
  have h1 : FloatKind.f32.format.read b = _ := h1
  have h2 : FloatKind.f32.format.read c = _ := h2
  unfold Ieee.Format.order
  rw [h1, h2]
  obtain ⟨x, y, h3, -⟩ := order_num s t m n i j
  rw [h3]
  cases compare x y <;> rfl
end Go.Proofs.Ytfphhlodfieopaa
