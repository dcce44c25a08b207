/- Contracts of farm.Done and farm.Longest. Conditions: none. -/
import Derived.Test.YtflmfjimemhooaaWf
namespace Go.Proofs.Ytflmfjimemhooaa
set_option linter.unusedVariables false
set_option linter.unusedSimpArgs false
open Go.RowKit
open Fl
open BigFrame

/-- A block of the call's own, its cells known. -/
structure ArrS (w0 : World) (B n : Nat) (V : Nat → Value) (wr : World) : Prop where
  kept : Kept None' w0 wr
  lB : w0.heap.size ≤ B
  cell : ∀ j, j < n → wr.cell? ⟨B, j, none⟩ = some (V j)
  fz : ∀ j, wr.frozen? ⟨B, j, none⟩ = false
theorem ArrS.step {w0 : World} {B n : Nat} {V : Nat → Value} {wr wr' : World} (h : ArrS w0 B n V wr) (k : Kept None' wr wr') : ArrS w0 B n V wr' := ⟨h.kept.trans k, h.lB, fun j hj => k.some (h.cell j hj) id, fun j => (k.frozen _).trans (h.fz j)⟩
theorem ArrS.set {w0 : World} {B n : Nat} {V V' : Nat → Value} {wr : World} (h : ArrS w0 B n V wr) {i : Nat} {v : Value} (hi : i < n) (hV : ∀ j, j < n → V' j = if j = i then v else V j) : ArrS w0 B n V' (wr.setCell ⟨B, i, none⟩ v) :=
  ⟨h.kept.setCell (Or.inl h.lB) _, h.lB, fun j hj => by
    rw [hV j hj]
    by_cases e : j = i
    · subst e; rw [if_pos rfl]; exact cell_set_eq (h.cell j hj)
    · rw [if_neg e]; exact cell_set_ne (h.cell j hj) (Or.inr fun x => e x.symm), fun j => (World.frozen?_setCell ..).trans (h.fz j)⟩
theorem ArrS.cong {w0 : World} {B n : Nat} {V V' : Nat → Value} {wr : World} (h : ArrS w0 B n V wr) (hV : ∀ j, j < n → V' j = V j) : ArrS w0 B n V' wr := ⟨h.kept, h.lB, fun j hj => by rw [hV j hj]; exact h.cell j hj, h.fz⟩
theorem arr_made {w0 w W : World} {n : Nat} {v : Value} {t : TypeId} (k : Kept None' w0 w) (hW : W = w.alloc (.cells (madeCells #[v] n) t)) : ArrS w0 w.heap.size n (fun _ => v) W := by
  subst hW
  exact ⟨k.alloc _ _, k.size, fun j hj => (cell_alloc_one w _ _ j).trans (made_at n j v hj), fun j => (frozen?_alloc_cells _ _ _ _).trans (frozen_new _ _ (Nat.le_refl _))⟩
/-- The works that are told exist, up to the k-th run. -/
def okR (F0 : Nat → Int) (n : Int) (k : Nat) : Prop := ∀ r, r < k → 0 ≤ F0 r ∧ F0 r < n
def DnP (F0 : Nat → Int) (G : Nat → Bool) (n m : Nat) (w : World) (e : Ending) (w' : World) : Prop :=
  (¬ okR F0 n m ∧ e = .returned (.tuple #[.slice none 0 0, .int .i64 11]) ∧ Kept None' w w') ∨
  (okR F0 n m ∧ ∃ A cap, e = .returned (.tuple #[.slice A (flt (fun i => dnB F0 G m i) n).length cap, .int .i64 0]) ∧ Rd w' A (flt (fun i => dnB F0 G m i) n).length (fun j => (flt (fun i => dnB F0 G m i) n)[j]?.getD undef) ∧ Kept None' w w')
theorem wkE_len {n : Nat} {C R : Nat → Int} {an : Nat → Nat} {az : Nat → Nat → Int} (h : wkE n C R an az = 0) : n ≤ 2000 := by
  unfold wkE at h
  by_cases h2 : 2000 < n
  · rw [if_pos h2] at h; exact absurd h (by decide)
  · omega
theorem wkE_at {n : Nat} {C R : Nat → Int} {an : Nat → Nat} {az : Nat → Nat → Int} (h : wkE n C R an az = 0) {i : Nat} (hi : i < n) : an i ≤ 20 ∧ ∀ q, q < an i → 0 ≤ az i q ∧ az i q < i := by
  have hl := wkE_len h
  unfold wkE at h
  rw [if_neg (by omega)] at h
  have h1 := firE_all h i hi
  unfold wk1 at h1
  by_cases b1 : C i < 1 ∨ 1000000 < C i ∨ R i < 0 ∨ 100 < R i
  · rw [if_pos b1] at h1; exact absurd h1 (by decide)
  · rw [if_neg b1] at h1
    by_cases b2 : 20 < an i
    · rw [if_pos b2] at h1; exact absurd h1 (by decide)
    · rw [if_neg b2] at h1
      refine ⟨by omega, fun q hq => ?_⟩
      have h2 := firE_all h1 q hq
      unfold afE at h2
      by_cases b3 : az i q < 0 ∨ (i : Int) ≤ az i q
      · rw [if_pos b3] at h2; exact absurd h2 (by decide)
      · omega

set_option linter.unusedSimpArgs false in
set_option linter.unusedVariables false in
set_option maxHeartbeats 4000000 in
set_option maxRecDepth 100000 in
theorem done_err (A : Option Addr) (n cap : Nat) (C R : Nat → Int) (AA : Nat → Option Addr) (an ac : Nat → Nat) (az : Nat → Nat → Int) (B : Value) (w : World) (hn : n ≤ cap) (hcap : cap ≤ 9223372036854775807) (hr : WkR w A n C R AA an ac az) (E : Int) (hE : wkE n C R an az = E) (h0 : ¬ E = 0) :
    Calls Try.prog 13 #[.slice A n cap, B] w fun e w' => e = .returned (.tuple #[.slice none 0 0, .int .i64 E]) ∧ Kept None' w w' := by
  have HR := Lib.hid hr
  have HE := Lib.hid hE
  have g0 : (E != 0) = true := by simp [h0]
  clear hr hE h0
  go_enter Try.func13, Try.ntmps13
  go_wp2_with (go_at_call 32; refine (checkwork_any A n cap C R AA an ac az _ hn hcap HR.out).mono ?_; rw [HE.out]; rintro e w1 ⟨rfl, hk⟩)
  go_ret2
  exact ⟨rfl, hk⟩
set_option linter.unusedSimpArgs false in
set_option linter.unusedVariables false in
set_option maxHeartbeats 4000000 in
set_option maxRecDepth 100000 in
theorem done_ok (A : Option Addr) (n cap : Nat) (C R : Nat → Int) (AA : Nat → Option Addr) (an ac : Nat → Nat) (az : Nat → Nat → Int) (B : Option Addr) (m capm : Nat) (F : Nat → Nat → Int) (G : Nat → Bool) (w : World) (hn : n ≤ cap) (hcap : cap ≤ 9223372036854775807) (hr : WkR w A n C R AA an ac az) (hm : m ≤ capm) (hcapm : capm ≤ 9223372036854775807) (hrn : RnR w B m F G) (hE : wkE n C R an az = 0) :
    Calls Try.prog 13 #[.slice A n cap, .slice B m capm] w (DnP (F 0) G n m w) := by
  have hl := wkE_len hE
  have HR := Lib.hid hr
  have HRN := Lib.hid hrn
  have HE := Lib.hid hE
  clear hr hE hrn
  have HMK := Lib.hid (run_make_row' (P := Try.prog) 86 4 (.bool false) 1 Try.underlying86 (by kernel_rfl) rfl .i64 .i64 n (by omega) (by omega))
  go_enter Try.func13, Try.ntmps13
  go_upto_region 4 with (go_at_call 32; refine (checkwork_any A n cap C R AA an ac az _ hn hcap HR.out).mono ?_; rw [HE.out]; rintro e w1 ⟨rfl, hk⟩)
  have K1 := Lib.hid hk
  clear hk
  have hmk := HMK.out
  go_upto_region 5 with fail
  refine of_world (fun W2 hW => ?_)
  have HA := Lib.hid (arr_made (w0 := w) K1.out hW)
  clear hW hmk
  generalize w1.heap.size = Q at *
  go_wp2_with fail
  go_loopw [20] (fun s20 wr => ∃ k : Nat, k ≤ m ∧ s20 = .int .i64 (k : Int) ∧ Hid (okR (F 0) n k) ∧ ArrS w Q n (fun j => .bool (dnB (F 0) G k j)) wr) (fun s20 _ => (m - intOf s20).toNat)
  case atStart => exact ⟨0, Nat.zero_le _, rfl, Lib.hid (fun r h => absurd h (by omega)), HA.out⟩
  case round =>
    obtain ⟨k, hk, rfl, HK, hS⟩ := hrel
    have HS := Lib.hid hS
    clear hS
    by_cases hlt : k < m
    · have d1 : decide ((k : Int) < (m : Int)) = true := decide_eq_true (by omega)
      obtain ⟨b, o, rfl, hc⟩ := (HRN.out.kept HS.out.kept) (by omega)
      obtain ⟨c0, c1, c2, c3, c4⟩ := hc k hlt
      clear hc
      have HNO := Lib.hid (fun (h : ¬ (0 ≤ F 0 k ∧ F 0 k < (n : Int))) => show ¬ okR (F 0) n m from fun h2 => h (h2 k hlt))
      have HYES := Lib.hid (fun (h : 0 ≤ F 0 k ∧ F 0 k < (n : Int)) => show okR (F 0) n (k + 1) from fun r hr => by
        by_cases e : r = k
        · subst e; exact h
        · exact HK.out r (by omega))
      have HSU := Lib.hid (fun i => dnB_succ (F 0) G k i)
      generalize F 0 k = x at *
      generalize F 1 k = x1 at *
      generalize F 2 k = x2 at *
      generalize F 3 k = x3 at *
      go_upto_region 8 with fail
      refine of_world (fun W3 hW => ?_)
      have k3 : Kept None' wr W3 := by rw [hW]; exact (Kept.refl _ _).alloc _ _
      have b0 : W3.cell? ⟨wr.heap.size, 0, none⟩ = some (.int .i64 x) := by rw [hW]; exact cell_alloc_one wr _ _ 0
      have b4 : W3.cell? ⟨wr.heap.size, 4, none⟩ = some (.bool (G k)) := by rw [hW]; exact cell_alloc_one wr _ _ 4
      have HS3 := Lib.hid (HS.out.step k3)
      clear hW k3 c0 c1 c2 c3 c4
      generalize wr.heap.size = T at *
      by_cases q1 : x < 0
      · have g1 : decide (x < 0) = true := decide_eq_true q1
        have HX := Lib.hid (HNO.out (by omega))
        go_wp2_with fail
        go_ret2
        exact .inl ⟨HX.out, rfl, HS3.out.kept⟩
      · have g1 : decide (x < 0) = false := decide_eq_false q1
        by_cases q2 : (n : Int) ≤ x
        · have g2 : decide ((n : Int) ≤ x) = true := decide_eq_true q2
          have HX := Lib.hid (HNO.out (by omega))
          go_wp2_with fail
          go_ret2
          exact .inl ⟨HX.out, rfl, HS3.out.kept⟩
        · have g2 : decide ((n : Int) ≤ x) = false := decide_eq_false q2
          have HY := Lib.hid (HYES.out (by omega))
          obtain ⟨i, rfl⟩ := Int.eq_ofNat_of_zero_le (show 0 ≤ x by omega)
          have hi : i < n := by omega
          have e0 := HS3.out.cell i hi
          have z0 := HS3.out.fz i
          have i1 : (0 : Int) ≤ (i : Int) := by omega
          have i2 : (i : Int) < (n : Int) := by omega
          clear HNO HYES
          have HD : ∀ c, dnB (F 0) G k (i : Int) = c → ∀ g, G k = g → Hid (∀ j : Nat, j < n → Value.bool (dnB (F 0) G (k + 1) j) = if j = i then Value.bool (c || !g) else Value.bool (dnB (F 0) G k j)) := fun c hc g hg => Lib.hid (fun j hj => by
            rw [HSU.out j, hg]
            by_cases e : j = i
            · subst e; rw [if_pos rfl, hc]; simp
            · rw [if_neg e]
              have : ((i : Int) == (j : Int)) = false := by simp; omega
              rw [this]
              simp)
          have HD := Lib.hid HD
          go_upto_region 10 with fail
          cases hc : dnB (F 0) G k (i : Int) <;> cases hg : G k
          all_goals
            have HDD := HD.out _ hc _ hg
            rw [hc] at e0
            rw [hg] at b4
            have A0 := ext_cell e0
            have A1 := ext_cell b0
            have A2 := ext_cell b4
            clear hc hg
            refine region_ext_tail 14 (by kernel_rfl) (by kernel_rfl) ?_
            simp only [List.take_succ_cons, List.take_zero, List.drop_succ_cons, List.drop_zero]
            repeat (first
              | go_big_quiet_skip
              | (go_big_quiet_want; go_big_quiet_op; first | go_big_quiet_on | go_big_quiet_call (first
                | (fail))))
            refine wpQuiet_nil ?_
            rintro _ ⟨xq, rfl⟩
            have kx := ext_kept W3 xq
            have HS4 := Lib.hid (HS3.out.step kx)
            have e0' := kx.some e0 id
            have z0' := (kx.frozen _).trans z0
            clear kx e0 z0 b0 b4 A0 A1 A2
            generalize ext W3 xq = W4 at *
            go_wp2_with fail
            go_roundw
            case rel => exact ⟨k + 1, by omega, by go_num, HY, HS4.out.set hi HDD.out⟩
            case measure => simp [intOf]; omega
    · obtain rfl : k = m := by omega
      have d1 : decide ((k : Int) < (k : Int)) = false := by simp
      go_wp2_with (go_at_call 41; refine (numbersof_any Q n n (fun i => dnB (F 0) G k i) true _ hl HS.out.cell).mono ?_; rintro e w2 ⟨v, rfl, hL⟩)
      obtain ⟨A', cap', rfl, l1, l2, hRd⟩ := hL.slice
      go_ret2
      exact .inr ⟨HK.out, A', cap', rfl, hRd, HS.out.kept.trans hL.1⟩

/-- The greater one, as the walk spells it. -/
abbrev mxI (a b : Int) : Int := if a < b then b else a
/-- The greatest of the sums of what a work comes after. -/
def lgI (s0 : Int) (S : Nat → Int) (a : Nat → Int) : Nat → Int
  | 0 => s0
  | q + 1 => mxI (lgI s0 S a q) (S (a q).toNat)
/-- The sums behind i works. -/
def lgS (C : Nat → Int) (an : Nat → Nat) (az : Nat → Nat → Int) : Nat → Nat → Int
  | 0 => fun _ => 0
  | i + 1 => fun j => if j = i then wrap64 (lgI (lgS C an az i i) (lgS C an az i) (az i) (an i) + C i) else lgS C an az i j
def lgM (C : Nat → Int) (an : Nat → Nat) (az : Nat → Nat → Int) : Nat → Int
  | 0 => 0
  | i + 1 => mxI (lgM C an az i) (lgS C an az (i + 1) i)

set_option linter.unusedSimpArgs false in
set_option linter.unusedVariables false in
set_option maxHeartbeats 4000000 in
set_option maxRecDepth 100000 in
theorem long_err (A : Option Addr) (n cap : Nat) (C R : Nat → Int) (AA : Nat → Option Addr) (an ac : Nat → Nat) (az : Nat → Nat → Int) (w : World) (hn : n ≤ cap) (hcap : cap ≤ 9223372036854775807) (hr : WkR w A n C R AA an ac az) (E : Int) (hE : wkE n C R an az = E) (h0 : ¬ E = 0) :
    Calls Try.prog 14 #[.slice A n cap] w fun e w' => e = .returned (.tuple #[.int .i64 0, .int .i64 E]) ∧ Kept None' w w' := by
  have HR := Lib.hid hr
  have HE := Lib.hid hE
  have g0 : (E != 0) = true := by simp [h0]
  clear hr hE h0
  go_enter Try.func14, Try.ntmps14
  go_wp2_with (go_at_call 32; refine (checkwork_any A n cap C R AA an ac az _ hn hcap HR.out).mono ?_; rw [HE.out]; rintro e w1 ⟨rfl, hk⟩)
  go_ret2
  exact ⟨rfl, hk⟩

set_option linter.unusedSimpArgs false in
set_option linter.unusedVariables false in
set_option maxHeartbeats 4000000 in
set_option maxRecDepth 100000 in
theorem long_ok (A : Option Addr) (n cap : Nat) (C R : Nat → Int) (AA : Nat → Option Addr) (an ac : Nat → Nat) (az : Nat → Nat → Int) (w : World) (hn : n ≤ cap) (hcap : cap ≤ 9223372036854775807) (hr : WkR w A n C R AA an ac az) (hE : wkE n C R an az = 0) :
    Calls Try.prog 14 #[.slice A n cap] w fun e w' => e = .returned (.tuple #[.int .i64 (lgM C an az n), .int .i64 0]) ∧ Kept None' w w' := by
  have hl := wkE_len hE
  have HR := Lib.hid hr
  have HE := Lib.hid hE
  clear hr hE
  have HMK := Lib.hid (run_make_row' (P := Try.prog) 38 3 (.int .i64 0) 8 Try.underlying38 (by kernel_rfl) rfl .i64 .i64 n (by omega) (by omega))
  obtain ⟨M, hM⟩ : ∃ M, lgM C an az n = M := ⟨_, rfl⟩
  rw [hM]
  have HM := Lib.hid hM
  clear hM
  go_enter Try.func14, Try.ntmps14
  go_upto_region 5 with (go_at_call 32; refine (checkwork_any A n cap C R AA an ac az _ hn hcap HR.out).mono ?_; rw [HE.out]; rintro e w1 ⟨rfl, hk⟩)
  have K1 := Lib.hid hk
  clear hk
  have hmk := HMK.out
  go_upto_region 6 with fail
  refine of_world (fun W2 hW => ?_)
  have HA := Lib.hid (arr_made (w0 := w) K1.out hW)
  clear hW hmk
  generalize w1.heap.size = Q at *
  go_wp2_with fail
  go_loopw [5, 21] (fun so sk wr => ∃ k : Nat, k ≤ n ∧ sk = .int .i64 (k : Int) ∧ so = .int .i64 (lgM C an az k) ∧ ArrS w Q n (fun j => .int .i64 (lgS C an az k j)) wr) (fun _ sk _ => (n - intOf sk).toNat)
  case atStart => exact ⟨0, Nat.zero_le _, rfl, rfl, HA.out⟩
  case round =>
    obtain ⟨k, hk, rfl, rfl, hS⟩ := hrel
    have HS := Lib.hid hS
    clear hS
    by_cases hlt : k < n
    · have d1 : decide ((k : Int) < (n : Int)) = true := decide_eq_true (by omega)
      obtain ⟨hrA, hrB⟩ := HR.out.kept (HS.out.kept)
      obtain ⟨b, o, rfl, hc⟩ := hrA (by omega)
      obtain ⟨c0, c1, c2⟩ := hc k hlt
      obtain ⟨l1, l2, hr2⟩ := HR.out.2 k hlt
      have HR2 := Lib.hid hr2
      obtain ⟨v1, v2⟩ := wkE_at HE.out hlt
      have HV := Lib.hid v2
      have HSU := Lib.hid (show lgS C an az (k + 1) = fun j => if j = k then wrap64 (lgI (lgS C an az k k) (lgS C an az k) (az k) (an k) + C k) else lgS C an az k j from rfl)
      have HMU := Lib.hid (show lgM C an az (k + 1) = mxI (lgM C an az k) (lgS C an az (k + 1) k) from rfl)
      unfold maxLen at l2
      clear hrA hrB hc hr2 v2
      generalize lgM C an az k = M0 at *
      generalize lgS C an az k = S0 at *
      generalize C k = Ck at *
      generalize R k = Rk at *
      generalize an k = p at *
      generalize ac k = pc at *
      generalize az k = zz at *
      generalize AA k = D at *
      go_upto_region 9 with fail
      refine of_world (fun W3 hW => ?_)
      have k3 : Kept None' wr W3 := by rw [hW]; exact (Kept.refl _ _).alloc _ _
      have b0 : W3.cell? ⟨wr.heap.size, 0, none⟩ = some (.int .i64 Ck) := by rw [hW]; exact cell_alloc_one wr _ _ 0
      have b2 : W3.cell? ⟨wr.heap.size, 2, none⟩ = some (.slice D p pc) := by rw [hW]; exact cell_alloc_one wr _ _ 2
      have HS3 := Lib.hid (HS.out.step k3)
      have hQT : Q < wr.heap.size := by have : Q < wr.heap.size := cell_lt (HS.out.cell k hlt)
                                        exact this
      have HBT := Lib.hid (And.intro b0 (And.intro b2 hQT))
      clear hW k3 c0 c1 c2 b0 hQT
      generalize wr.heap.size = T at *
      go_wp2_with fail
      clear b2
      go_loopw [29] (fun sq wq => ∃ q : Nat, q ≤ p ∧ sq = .int .i64 (q : Int) ∧ wq.cell? ⟨T, 0, none⟩ = some (.int .i64 Ck) ∧ ArrS w Q n (fun j => .int .i64 (if j = k then lgI (S0 k) S0 zz q else S0 j)) wq) (fun sq _ => (p - intOf sq).toNat)
      case atStart => exact ⟨0, Nat.zero_le _, rfl, HBT.out.1, HS3.out.cong (fun j hj => by by_cases e : j = k <;> simp [e, lgI])⟩
      case round =>
        obtain ⟨q, hq, rfl, hb0, hS⟩ := hrel
        have HS4 := Lib.hid hS
        have HB0 := Lib.hid hb0
        by_cases hlt2 : q < p
        · have d2 : decide ((q : Int) < (p : Int)) = true := decide_eq_true (by omega)
          obtain ⟨b', o', rfl, hc'⟩ := (HR2.out.kept (HS4.out.kept)) (by omega)
          obtain ⟨y1, y2⟩ := HV.out q hlt2
          have f0 := hc' q hlt2
          have HI := Lib.hid (show lgI (S0 k) S0 zz (q + 1) = mxI (lgI (S0 k) S0 zz q) (S0 (zz q).toNat) from rfl)
          clear hc' hS hb0
          obtain ⟨i, hi⟩ := Int.eq_ofNat_of_zero_le y1
          simp only [hi] at f0
          have HI2 := Lib.hid (show lgI (S0 k) S0 zz (q + 1) = mxI (lgI (S0 k) S0 zz q) (S0 i) by rw [HI.out, hi]; rfl)
          have hik : i < k := by omega
          clear hi y1 y2 HI
          have e0 : wr.cell? ⟨Q, k, none⟩ = some (.int .i64 (lgI (S0 k) S0 zz q)) := by have := HS4.out.cell k hlt; rwa [if_pos rfl] at this
          have e1 : wr.cell? ⟨Q, i, none⟩ = some (.int .i64 (S0 i)) := by have := HS4.out.cell i (by omega); rwa [if_neg (by omega)] at this
          have z0 := HS4.out.fz k
          have i1 : (0 : Int) ≤ (i : Int) := by omega
          have i2 : (i : Int) < (n : Int) := by omega
          have i3 : (0 : Int) ≤ (k : Int) := by omega
          have i4 : (k : Int) < (n : Int) := by omega
          go_upto_region 12 with fail
          have A0 := ext_cell e0
          have A1 := ext_cell e1
          clear f0
          refine region_ext_tail 12 (by kernel_rfl) (by kernel_rfl) ?_
          simp only [List.take_succ_cons, List.take_zero, List.drop_succ_cons, List.drop_zero]
          repeat (first
            | go_big_quiet_skip
            | (go_big_quiet_want; go_big_quiet_op; first | go_big_quiet_on | go_big_quiet_call (first
              | (fail))))
          refine wpQuiet_nil ?_
          rintro _ ⟨xq, rfl⟩
          have kx := ext_kept wr xq
          have HS5 := Lib.hid (HS4.out.step kx)
          have e0' := kx.some e0 id
          have z0' := (kx.frozen _).trans z0
          have HB5 := Lib.hid (kx.some HB0.out id)
          clear kx e0 e1 z0 A0 A1
          generalize ext wr xq = W5 at *
          go_wp2_with fail
          go_roundw
          case rel =>
            have hBT := HBT.out.2.2
            refine ⟨q + 1, by omega, by go_num, cell_set_ne HB5.out (Or.inl (by omega)), HS5.out.set hlt (fun j hj => ?_)⟩
            by_cases e : j = k
            · subst e; rw [if_pos rfl, if_pos rfl, HI2.out]
            · rw [if_neg e, if_neg e, if_neg e]
          case measure => simp [intOf]; omega
        · obtain rfl : q = p := by omega
          have d2 : decide ((q : Int) < (q : Int)) = false := by simp
          have e0 : wr.cell? ⟨Q, k, none⟩ = some (.int .i64 (lgI (S0 k) S0 zz q)) := by have := HS4.out.cell k hlt; rwa [if_pos rfl] at this
          have z0 := HS4.out.fz k
          have i3 : (0 : Int) ≤ (k : Int) := by omega
          have i4 : (k : Int) < (n : Int) := by omega
          generalize hL : lgI (S0 k) S0 zz q = L at *
          go_upto_region 14 with fail
          have A0 := ext_cell e0
          have A1 := ext_cell hb0
          clear hb0 hS hL
          refine region_ext_tail 8 (by kernel_rfl) (by kernel_rfl) ?_
          simp only [List.take_succ_cons, List.take_zero, List.drop_succ_cons, List.drop_zero]
          repeat (first
            | go_big_quiet_skip
            | (go_big_quiet_want; go_big_quiet_op; first | go_big_quiet_on | go_big_quiet_call (first
              | (fail))))
          refine wpQuiet_nil ?_
          rintro _ ⟨xq, rfl⟩
          have kx := ext_kept wr xq
          have HS5 := Lib.hid (HS4.out.step kx)
          have e0' := kx.some e0 id
          have z0' := (kx.frozen _).trans z0
          clear kx e0 z0 A0 A1
          generalize ext wr xq = W5 at *
          go_upto_region 15 with fail
          refine of_world (fun W6 hW => ?_)
          have HS6 := Lib.hid (show ArrS w Q n (fun j => .int .i64 (lgS C an az (k + 1) j)) W6 by
            rw [hW]
            refine HS5.out.set hlt (fun j hj => ?_)
            rw [HSU.out]
            by_cases e : j = k
            · simp [e]
            · simp [e])
          have e6 := HS6.out.cell k hlt
          clear hW e0' z0'
          generalize lgS C an az (k + 1) k = X at *
          go_wp2_with fail
          go_roundw
          case rel => exact ⟨k + 1, by omega, by go_num, by rw [HMU.out], HS6.out⟩
          case measure => simp [intOf]; omega
    · obtain rfl : k = n := by omega
      have d1 : decide ((k : Int) < (k : Int)) = false := by simp
      have HX := Lib.hid HM.out
      go_wp2_with fail
      go_ret2
      exact ⟨by rw [← HX.out]; rfl, HS.out.kept⟩
end Go.Proofs.Ytflmfjimemhooaa
