/- Contracts of slices.Equal over ints, of numbersOf, and of slices.ContainsFunc over runs. Conditions: none. -/
import Derived.Test.YtflmfjimemhooaaWe
import Derived.Test.YtflmfjimemhooaaRs
namespace Go.Proofs.Ytflmfjimemhooaa
set_option linter.unusedVariables false
set_option linter.unusedSimpArgs false
open Go.RowKit
open Fl
open BigFrame

set_option linter.unusedSimpArgs false in
set_option linter.unusedVariables false in
set_option maxHeartbeats 2000000 in
set_option maxRecDepth 100000 in
theorem equal_same (A1 A2 : Option Addr) (n c1 c2 : Nat) (z : Nat → Int) (w : World) (hn : n ≤ 9223372036854775807) (h1 : Rd w A1 n (fun i => .int .i64 (z i))) (h2 : Rd w A2 n (fun i => .int .i64 (z i))) :
    Calls Try.prog 21 #[.slice A1 n c1, .slice A2 n c2] w fun e w' => e = .returned (.bool true) ∧ Kept None' w w' := by
  have H1 := Lib.hid h1
  have H2 := Lib.hid h2
  clear h1 h2
  go_enter Try.func21, Try.ntmps21
  go_wp2_with fail
  go_loopw [13] (fun s wr => ∃ k : Nat, k ≤ n ∧ s = .int .i64 (k : Int) ∧ Kept None' w wr) (fun s _ => (n - intOf s).toNat)
  case atStart => exact ⟨0, Nat.zero_le _, rfl, Kept.refl _ _⟩
  case round =>
    obtain ⟨k, hk, rfl, hkp⟩ := hrel
    have K := Lib.hid hkp
    clear hkp
    by_cases hlt : k < n
    · have d1 : decide ((k : Int) < (n : Int)) = true := decide_eq_true (by omega)
      obtain ⟨b1, o1, rfl, hc1⟩ := (H1.out.kept K.out) (by omega)
      obtain ⟨b2, o2, rfl, hc2⟩ := (H2.out.kept K.out) (by omega)
      have e1 := hc1 k hlt
      have e2 := hc2 k hlt
      clear hc1 hc2
      go_upto_region 6 with fail
      have A0 := ext_cell e1
      have A1 := ext_cell e2
      clear e1 e2
      refine region_ext (by kernel_rfl) (by kernel_rfl) ?_
      repeat (first
        | go_big_quiet_skip
        | (go_big_quiet_want; go_big_quiet_op; first | go_big_quiet_on | go_big_quiet_call (first
          | (fail))))
      refine wpQuiet_nil ?_
      rintro _ ⟨xq, rfl⟩
      have K2 := Lib.hid (K.out.trans (ext_kept wr xq))
      clear A0 A1
      generalize ext wr xq = W2 at *
      go_wp2_with fail
      go_roundw
      case rel => exact ⟨k + 1, by omega, by go_num, K2.out⟩
      case measure => simp [intOf]; omega
    · obtain rfl : k = n := by omega
      have d1 : decide ((k : Int) < (k : Int)) = false := by simp
      go_wp2_with fail
      go_ret
      exact ⟨rfl, K.out⟩

theorem int_info' : (Try.prog.info? 3).map (fun i => (i.zero, i.size, i.bytes)) = some (some (.int .i64 0), 1, 8) := by kernel_rfl
/-- A slice of the call's own that is being made. -/
def LS (w0 : World) (v : Value) (xs : List Value) (wr : World) : Prop := Kept None' w0 wr ∧ wr.ownsRow w0.heap.size 3 1 v xs.length xs
theorem LS.nil (w0 : World) {wr : World} (k : Kept None' w0 wr) : LS w0 (.slice none 0 0) [] wr := ⟨k, World.ownsRow_nil _ _ _ _⟩
theorem LS.step {w0 : World} {v : Value} {xs : List Value} {wr wr' : World} (h : LS w0 v xs wr) (k : Kept None' wr wr') : LS w0 v xs wr' := ⟨h.1.trans k, own_kept h.2 k⟩
theorem LS.app {w0 : World} {v v' : Value} {xs : List Value} {u : Value} {wr wa wb : World} (h : LS w0 v xs wr) (hk : Kept None' wr wa) (hk2 : Kept (fun k => v.ownBlock = some k) wa wb) (hown : wb.ownsRow w0.heap.size 3 1 v' (xs.length + 1) (xs ++ [u])) : LS w0 v' (xs ++ [u]) wb := by
  refine ⟨kept_over (h.1.trans hk) hk2 (fun i hi e => ?_), by rw [List.length_append]; exact hown⟩
  rcases h.2.2 with ⟨rfl, _⟩ | ⟨g, cap, cur, rfl, hb, _⟩
  · cases e
  · have e' : g = i := by simpa [Value.ownBlock] using e
    omega
theorem LS.slice {w0 : World} {v : Value} {xs : List Value} {wr : World} (h : LS w0 v xs wr) : ∃ A cap, v = .slice A xs.length cap ∧ xs.length ≤ cap ∧ cap ≤ maxLen ∧ Rd wr A xs.length (fun j => xs[j]?.getD undef) := by
  rcases h.2.2 with ⟨rfl, h0⟩ | ⟨B, cap, cur, rfl, hB, -, hcp, hcp2, -⟩
  · exact ⟨none, 0, by rw [h0], by omega, by unfold maxLen; omega, fun h => absurd h (by omega)⟩
  · refine ⟨some ⟨B, 0, none⟩, cap, rfl, hcp, hcp2, fun _ => ⟨B, 0, rfl, fun j hj => ?_⟩⟩
    have := h.2.cells (g := B) rfl j (xs[j]'hj) (List.getElem?_eq_getElem hj)
    rw [add_at] at this
    rw [Nat.zero_add, this]
    show some _ = some (xs[j]?.getD undef)
    rw [List.getElem?_eq_getElem hj]
    rfl
/-- The numbers below k that are so. -/
def fltN (f : Nat → Bool) (k : Nat) : List Nat := (List.range k).filter f
def flt (f : Nat → Bool) (k : Nat) : List Value := (fltN f k).map fun i : Nat => .int .i64 (i : Int)
theorem flt_yes {f : Nat → Bool} {k : Nat} (h : f k = true) : flt f (k + 1) = flt f k ++ [.int .i64 (k : Int)] := by
  unfold flt fltN
  rw [List.range_succ, List.filter_append, List.map_append]
  simp [h]
theorem flt_no {f : Nat → Bool} {k : Nat} (h : f k = false) : flt f (k + 1) = flt f k := by
  unfold flt fltN
  rw [List.range_succ, List.filter_append, List.map_append]
  simp [h]
theorem flt_len (f : Nat → Bool) (k : Nat) : (flt f k).length ≤ k := by
  unfold flt fltN
  rw [List.length_map]
  exact Nat.le_trans (List.length_filter_le ..) (by simp)
theorem flt_ints (f : Nat → Bool) (k : Nat) : ∃ z : Nat → Int, ∀ j, j < (flt f k).length → (flt f k)[j]?.getD undef = .int .i64 (z j) := by
  refine ⟨fun j => (((fltN f k)[j]?.getD 0 : Nat) : Int), fun j hj => ?_⟩
  have hj' : j < (fltN f k).length := by unfold flt at hj; rwa [List.length_map] at hj
  unfold flt
  simp only [List.getElem?_map, List.getElem?_eq_getElem hj', Option.map_some, Option.getD_some]
def NumP (w : World) (xs : List Value) (e : Ending) (w' : World) : Prop := ∃ v, e = .returned v ∧ LS w v xs w'

set_option linter.unusedSimpArgs false in
set_option linter.unusedVariables false in
set_option maxHeartbeats 2000000 in
set_option maxRecDepth 100000 in
theorem numbersof_any (B n cap : Nat) (f : Nat → Bool) (so : Bool) (w : World) (hn : n ≤ 2000) (hc : ∀ i, i < n → w.cell? ⟨B, i, none⟩ = some (.bool (f i))) :
    Calls Try.prog 41 #[.slice (some ⟨B, 0, none⟩) n cap, .bool true] w (NumP w (flt f n)) := by
  have HC := Lib.hid hc
  clear hc
  obtain ⟨i0, hi0, hz0, hz1, hz2⟩ := info_parts' int_info'
  have HI := Lib.hid (And.intro hi0 (And.intro hz0 (And.intro hz1 hz2)))
  clear hi0 hz0 hz1 hz2
  go_enter Try.func41, Try.ntmps41
  go_wp2_with fail
  go_loopw [5, 10] (fun s5 s10 wr => ∃ (k : Nat) (v : Value), k ≤ n ∧ s10 = .int .i64 (k : Int) ∧ v = s5 ∧ LS w v (flt f k) wr) (fun _ s10 _ => (n - intOf s10).toNat)
  case atStart => exact ⟨0, _, Nat.zero_le _, rfl, rfl, LS.nil w (Kept.refl _ _)⟩
  case round =>
    obtain ⟨k, v, hk, rfl, rfl, hS⟩ := hrel
    have HS := Lib.hid hS
    by_cases hlt : k < n
    · have d1 : decide ((k : Int) < (n : Int)) = true := decide_eq_true (by omega)
      have e0 := hS.1.some (HC.out k hlt) id
      have hl := flt_len f k
      obtain ⟨hi0, hz0, hz1, hz2⟩ := HI.out
      clear hS
      cases hf : f k with
      | true =>
        rw [hf] at e0
        have HF := Lib.hid hf
        clear hf
        go_wp2_with (first
          | (at_builtin; refine wpList_append_kept _ (by rfl) _ _ _ (by rfl) w.heap.size 3 i0 _ 1 8 Try.underlying38 hi0 hz0 hz1 hz2 rfl (by omega) v (flt f k).length (flt f k) (by rfl)
              (own_kept HS.out.2 ((Kept.refl _ _).alloc _ _)) ⟨wr.heap.size, 0, none⟩ 1 1 [.int .i64 (k : Int)] (by rfl) rfl (news_one (cell_alloc_one wr _ _ 0)) (by simp [Value.oneCell']) (by omega) (by unfold maxLen; omega) (by omega) (by have := HS.out.1.size; simp; omega) ?_
             intro g4 cap4 w5 hown4 hk4 hat4
             have HO := Lib.hid (And.intro hown4 hk4)
             clear hown4 hk4 hat4)
          | fail)
        go_roundw
        case rel => exact ⟨k + 1, _, by omega, by go_num, rfl, by rw [flt_yes HF.out]; exact HS.out.app ((Kept.refl _ _).alloc _ _) HO.out.2 HO.out.1⟩
        case measure => simp [intOf]; omega
      | false =>
        rw [hf] at e0
        have HF := Lib.hid hf
        clear hf
        go_wp2_with fail
        go_roundw
        case rel => exact ⟨k + 1, _, by omega, by go_num, rfl, by rw [flt_no HF.out]; exact HS.out⟩
        case measure => simp [intOf]; omega
    · obtain rfl : k = n := by omega
      have d1 : decide ((k : Int) < (k : Int)) = false := by simp
      clear hS
      go_wp2_with fail
      go_ret
      exact ⟨v, rfl, HS.out⟩

/-- Some of the first m runs has done work i. -/
def dnB (F0 : Nat → Int) (G : Nat → Bool) (m : Nat) (i : Int) : Bool := (List.range m).any fun r => F0 r == i && !G r
theorem dnB_succ (F0 : Nat → Int) (G : Nat → Bool) (m : Nat) (i : Int) : dnB F0 G (m + 1) i = (dnB F0 G m i || (F0 m == i && !G m)) := by
  unfold dnB
  rw [List.range_succ, List.any_append]
  simp
theorem dnB_yes {F0 : Nat → Int} {G : Nat → Bool} {m : Nat} {i : Int} {r : Nat} (hr : r < m) (h : (F0 r == i && !G r) = true) : dnB F0 G m i = true := by
  unfold dnB
  rw [List.any_eq_true]
  exact ⟨r, List.mem_range.2 hr, h⟩
theorem dnB_no {F0 : Nat → Int} {G : Nat → Bool} {m : Nat} {i : Int} (h : ∀ r, r < m → (F0 r == i && !G r) = false) : dnB F0 G m i = false := by
  unfold dnB
  rw [List.any_eq_false]
  intro r hr
  rw [h r (List.mem_range.1 hr)]
  simp
set_option linter.unusedSimpArgs false in
set_option linter.unusedVariables false in
set_option maxHeartbeats 2000000 in
set_option maxRecDepth 100000 in
theorem dm1_any (f0 f1 f2 f3 i : Int) (g : Bool) (T : Nat) (c : Bool) (w : World) (hT : w.cell? ⟨T, 0, none⟩ = some (.int .i64 i)) (hc : (f0 == i && !g) = c) :
    Calls Try.prog 20 #[.agg #[.int .i64 f0, .int .i64 f1, .int .i64 f2, .int .i64 f3, .bool g], .pointer (some ⟨T, 0, none⟩)] w fun e w' => e = .returned (.bool c) ∧ Kept None' w w' := by
  subst hc
  have tT : ∀ c t, (w.alloc (.cells c t)).cell? ⟨T, 0, none⟩ = some (.int .i64 i) := fun c t => ((Kept.refl None' w).alloc c t).some hT id
  clear hT
  cases h1 : f0 == i <;> cases g
  all_goals
    go_enter Try.func20, Try.ntmps20
    go_wp2_with fail
    go_ret
    exact ⟨rfl, (Kept.refl _ _).alloc _ _⟩
def IfP (c : Bool) (w : World) (e : Ending) (w' : World) : Prop := ∃ r : Int, e = .returned (.int .i64 r) ∧ decide (0 ≤ r) = c ∧ Kept None' w w'
set_option linter.unusedSimpArgs false in
set_option linter.unusedVariables false in
set_option maxHeartbeats 2000000 in
set_option maxRecDepth 100000 in
theorem indexf_runs (A : Option Addr) (m cap : Nat) (F : Nat → Nat → Int) (G : Nat → Bool) (i : Int) (T : Nat) (w : World) (hm : m ≤ 9223372036854775807) (hr : RnR w A m F G) (hT : w.cell? ⟨T, 0, none⟩ = some (.int .i64 i)) :
    Calls Try.prog 43 #[.slice A m cap, .func (.func 20) #[] #[.pointer (some ⟨T, 0, none⟩)]] w (IfP (dnB (F 0) G m i) w) := by
  have HR := Lib.hid hr
  have HT := Lib.hid hT
  clear hr hT
  go_enter Try.func43, Try.ntmps43
  go_wp2_with fail
  go_loopw [8] (fun s8 wr => ∃ k : Nat, k ≤ m ∧ s8 = .int .i64 (k : Int) ∧ Hid (∀ r, r < k → (F 0 r == i && !G r) = false) ∧ Kept None' w wr) (fun s8 _ => (m - intOf s8).toNat)
  case atStart => exact ⟨0, Nat.zero_le _, rfl, Lib.hid (fun j hj => absurd hj (by omega)), Kept.refl _ _⟩
  case round =>
    obtain ⟨k, hk, rfl, HK, hkp⟩ := hrel
    have K := Lib.hid hkp
    clear hkp
    by_cases hlt : k < m
    · have d1 : decide ((k : Int) < (m : Int)) = true := decide_eq_true (by omega)
      obtain ⟨b, o, rfl, hc⟩ := (HR.out.kept K.out) (by omega)
      obtain ⟨c0, c1, c2, c3, c4⟩ := hc k hlt
      clear hc
      cases hv : (F 0 k == i && !G k) with
      | true =>
        have HV := Lib.hid hv
        have HX := Lib.hid (dnB_yes hlt hv)
        clear hv
        go_wp2_with (go_at_call 20; refine (dm1_any _ _ _ _ i _ T true _ (K.out.some HT.out id) HV.out).mono ?_; rintro e w1 ⟨rfl, hk1⟩)
        go_ret
        exact ⟨_, rfl, by rw [HX.out]; simp, K.out.trans hk1⟩
      | false =>
        have HV := Lib.hid hv
        clear hv
        go_wp2_with (go_at_call 20; refine (dm1_any _ _ _ _ i _ T false _ (K.out.some HT.out id) HV.out).mono ?_; rintro e w1 ⟨rfl, hk1⟩)
        go_roundw
        case rel => exact ⟨k + 1, by omega, by go_num, Lib.hid (fun j hj => by
          by_cases e : j = k
          · subst e; exact HV.out
          · exact HK.out j (by omega)), K.out.trans hk1⟩
        case measure => simp [intOf]; omega
    · obtain rfl : k = m := by omega
      have d1 : decide ((k : Int) < (k : Int)) = false := by simp
      have HX := Lib.hid (dnB_no HK.out)
      go_wp2_with fail
      go_ret
      exact ⟨_, rfl, by rw [HX.out]; decide, K.out⟩
set_option linter.unusedSimpArgs false in
set_option linter.unusedVariables false in
set_option maxHeartbeats 2000000 in
set_option maxRecDepth 100000 in
theorem containsf_runs (A : Option Addr) (m cap : Nat) (F : Nat → Nat → Int) (G : Nat → Bool) (i : Int) (T : Nat) (c : Bool) (w : World) (hm : m ≤ 9223372036854775807) (hr : RnR w A m F G) (hT : w.cell? ⟨T, 0, none⟩ = some (.int .i64 i)) (hc : dnB (F 0) G m i = c) :
    Calls Try.prog 19 #[.slice A m cap, .func (.func 20) #[] #[.pointer (some ⟨T, 0, none⟩)]] w fun e w' => e = .returned (.bool c) ∧ Kept None' w w' := by
  have HR := Lib.hid hr
  have HT := Lib.hid hT
  have HC := Lib.hid hc
  clear hr hT hc
  go_enter Try.func19, Try.ntmps19
  go_wp2_with (go_at_call 43; refine (indexf_runs A m cap F G i T w hm HR.out HT.out).mono ?_; rw [HC.out]; rintro e w1 ⟨r, rfl, hd, hk⟩)
  go_ret
  exact ⟨rfl, hk⟩
end Go.Proofs.Ytflmfjimemhooaa
