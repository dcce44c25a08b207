/- The walk of DoneMatches. Conditions: none. -/
import Derived.Test.YtflmfjimemhooaaWg
namespace Go.Proofs.Ytflmfjimemhooaa
set_option linter.unusedVariables false
set_option linter.unusedSimpArgs false
open Go.RowKit
open Fl
open BigFrame

theorem Rd.cong {w : World} {A : Option Addr} {n : Nat} {V V' : Nat → Value} (h : Rd w A n V) (hV : ∀ j, j < n → V j = V' j) : Rd w A n V' := fun hn => by
  obtain ⟨b, o, e, hc⟩ := h hn
  exact ⟨b, o, e, fun i hi => by rw [hc i hi, hV i hi]⟩
theorem firE_good {F0 : Nat → Int} {n : Int} {m : Nat} (h : okR F0 n m) : firE (fun r => if inB (F0 r) 0 (n - 1) = true then (0 : Int) else 11) m = 0 :=
  firE_zero (fun j hj => if_pos (by have := h j hj; unfold inB; simp; omega))
theorem firE_bad {F0 : Nat → Int} {n : Int} : ∀ {m : Nat}, ¬ okR F0 n m → firE (fun r => if inB (F0 r) 0 (n - 1) = true then (0 : Int) else 11) m = 11
  | 0, h => absurd (fun r hr => absurd hr (by omega)) h
  | m + 1, h => by
    by_cases h1 : okR F0 n m
    · have h2 : inB (F0 m) 0 (n - 1) = false := by
        cases hb : inB (F0 m) 0 (n - 1) with
        | false => rfl
        | true =>
          refine absurd (fun r hr => ?_) h
          by_cases e : r = m
          · subst e; unfold inB at hb; simp at hb; omega
          · exact h1 r (by omega)
      unfold firE
      rw [firE_good h1, if_neg (by simp), h2]
      rfl
    · unfold firE
      rw [firE_bad h1]
      rfl
theorem done_bad (A : Option Addr) (n cap : Nat) (C R : Nat → Int) (AA : Nat → Option Addr) (an ac : Nat → Nat) (az : Nat → Nat → Int) (B : Option Addr) (m capm : Nat) (F : Nat → Nat → Int) (G : Nat → Bool) (w : World) (hn : n ≤ cap) (hcap : cap ≤ 9223372036854775807) (hr : WkR w A n C R AA an ac az) (hm : m ≤ capm) (hcapm : capm ≤ 9223372036854775807) (hrn : RnR w B m F G) (hE : wkE n C R an az = 0) (hok : ¬ okR (F 0) n m) :
    Calls Try.prog 13 #[.slice A n cap, .slice B m capm] w fun e w' => e = .returned (.tuple #[.slice none 0 0, .int .i64 11]) ∧ Kept None' w w' :=
  (done_ok A n cap C R AA an ac az B m capm F G w hn hcap hr hm hcapm hrn hE).mono fun _ _ h => by
    rcases h with ⟨-, h⟩ | ⟨h, -⟩
    · exact h
    · exact absurd h hok
def DnG (F0 : Nat → Int) (G : Nat → Bool) (n m : Nat) (w : World) (e : Ending) (w' : World) : Prop := ∃ A cap, e = .returned (.tuple #[.slice A (flt (fun i => dnB F0 G m i) n).length cap, .int .i64 0]) ∧ Rd w' A (flt (fun i => dnB F0 G m i) n).length (fun j => (flt (fun i => dnB F0 G m i) n)[j]?.getD undef) ∧ Kept None' w w'
theorem done_good (A : Option Addr) (n cap : Nat) (C R : Nat → Int) (AA : Nat → Option Addr) (an ac : Nat → Nat) (az : Nat → Nat → Int) (B : Option Addr) (m capm : Nat) (F : Nat → Nat → Int) (G : Nat → Bool) (w : World) (hn : n ≤ cap) (hcap : cap ≤ 9223372036854775807) (hr : WkR w A n C R AA an ac az) (hm : m ≤ capm) (hcapm : capm ≤ 9223372036854775807) (hrn : RnR w B m F G) (hE : wkE n C R an az = 0) (hok : okR (F 0) n m) :
    Calls Try.prog 13 #[.slice A n cap, .slice B m capm] w (DnG (F 0) G n m w) :=
  (done_ok A n cap C R AA an ac az B m capm F G w hn hcap hr hm hcapm hrn hE).mono fun _ _ h => by
    rcases h with ⟨h, -⟩ | ⟨-, h⟩
    · exact absurd hok h
    · exact h

set_option linter.unusedSimpArgs false in
set_option linter.unusedVariables false in
set_option maxHeartbeats 4000000 in
set_option maxRecDepth 100000 in
theorem dm_err (A : Option Addr) (n cap : Nat) (C R : Nat → Int) (AA : Nat → Option Addr) (an ac : Nat → Nat) (az : Nat → Nat → Int) (B : Option Addr) (m capm : Nat) (F : Nat → Nat → Int) (G : Nat → Bool) (w : World) (hn : n ≤ cap) (hcap : cap ≤ 9223372036854775807) (hr : WkR w A n C R AA an ac az) (hm : m ≤ capm) (hcapm : capm ≤ 9223372036854775807) (hrn : RnR w B m F G) (E : Int) (hE : wkE n C R an az = E) (h0 : ¬ E = 0) :
    Calls Try.prog 4 #[.slice A n cap, .slice B m capm] w fun e w' => e = .returned (.bool true) ∧ Kept None' w w' := by
  have HR := Lib.hid hr
  have HE := Lib.hid hE
  have H0 := Lib.hid h0
  have g0 : (E != 0) = true := by simp [h0]
  clear hr hE h0
  go_enter Try.func4, Try.ntmps4
  go_wp2_with (first
    | (go_at_call 13; refine (done_err A n cap C R AA an ac az _ _ hn hcap HR.out E HE.out H0.out).mono ?_; rintro e w1 ⟨rfl, hk⟩; have K1 := Lib.hid hk; clear hk)
    | (go_at_call 14; refine (long_err A n cap C R AA an ac az _ hn hcap (HR.out.kept K1.out) E HE.out H0.out).mono ?_; rintro e w2 ⟨rfl, hk⟩; have K2 := Lib.hid (K1.out.trans hk); clear hk)
    | (go_at_call 15; refine (workerror_any A n cap C R AA an ac az _ hn hcap (HR.out.kept K2.out)).mono ?_; rw [HE.out]; rintro e w3 ⟨rfl, hk⟩; have K3 := Lib.hid (K2.out.trans hk); clear hk)
    | (go_at_call 11; refine (farms_any _).mono ?_; rintro e w4 ⟨rfl, hk4⟩))
  go_ret
  exact ⟨rfl, K3.out.trans (by first | exact hk4 | exact Kept.trans (by assumption) hk4)⟩

set_option linter.unusedSimpArgs false in
set_option linter.unusedVariables false in
set_option maxHeartbeats 8000000 in
set_option maxRecDepth 100000 in
theorem dm_bad (A : Option Addr) (n cap : Nat) (C R : Nat → Int) (AA : Nat → Option Addr) (an ac : Nat → Nat) (az : Nat → Nat → Int) (B : Option Addr) (m capm : Nat) (F : Nat → Nat → Int) (G : Nat → Bool) (w : World) (hn : n ≤ cap) (hcap : cap ≤ 9223372036854775807) (hr : WkR w A n C R AA an ac az) (hm : m ≤ capm) (hcapm : capm ≤ 9223372036854775807) (hrn : RnR w B m F G) (hE : wkE n C R an az = 0) (hok : ¬ okR (F 0) n m) :
    Calls Try.prog 4 #[.slice A n cap, .slice B m capm] w fun e w' => e = .returned (.bool true) ∧ Kept None' w w' := by
  have hl := wkE_len hE
  have HR := Lib.hid hr
  have HRN := Lib.hid hrn
  have HE := Lib.hid hE
  have HOK := Lib.hid hok
  clear hr hE hrn hok
  have HMK := Lib.hid (run_make_row' (P := Try.prog) 38 3 (.int .i64 0) 8 Try.underlying38 (by kernel_rfl) rfl .i64 .i64 n (by omega) (by omega))
  obtain ⟨M, hM⟩ : ∃ M, lgM C an az n = M := ⟨_, rfl⟩
  have HM := Lib.hid hM
  clear hM
  go_enter Try.func4, Try.ntmps4
  go_upto_region 6 with (first
    | (go_at_call 13; refine (done_bad A n cap C R AA an ac az B m capm F G _ hn hcap HR.out hm hcapm HRN.out HE.out HOK.out).mono ?_; rintro e w1 ⟨rfl, hk⟩; have K1 := Lib.hid hk; clear hk)
    | (go_at_call 14; refine (long_ok A n cap C R AA an ac az _ hn hcap (HR.out.kept K1.out) HE.out).mono ?_; rw [HM.out]; rintro e w2 ⟨rfl, hk⟩; have K2 := Lib.hid hk; clear hk)
    | (go_at_call 15; refine (workerror_any A n cap C R AA an ac az _ hn hcap ((HR.out.kept K1.out).kept K2.out)).mono ?_; rw [HE.out]; rintro e w3 ⟨rfl, hk⟩; have K3 := Lib.hid (K2.out.trans hk); clear hk)
    | (go_at_call 11; refine (farms_any _).mono ?_; rintro e w4 ⟨rfl, hk⟩; have K4 := Lib.hid (K3.out.trans hk); clear hk))
  have hmk := HMK.out
  have HR1 := Lib.hid (HR.out.kept K1.out)
  have HRN1 := Lib.hid (HRN.out.kept K1.out)
  clear HR HRN
  have HR := HR1
  have HRN := HRN1
  clear HR1 HRN1
  go_upto_region 7 with fail
  refine of_world (fun W2 hW => ?_)
  have HA := Lib.hid (arr_made (w0 := w1) K4.out hW)
  clear hW hmk
  generalize w4.heap.size = Q at *
  go_wp2_with fail
  go_loopw [11, 64] (fun so sk wr => ∃ k : Nat, k ≤ n ∧ sk = .int .i64 (k : Int) ∧ so = .int .i64 (lgM C an az k) ∧ ArrS w1 Q n (fun j => .int .i64 (lgS C an az k j)) wr) (fun _ sk _ => (n - intOf sk).toNat)
  case atStart => exact ⟨0, Nat.zero_le _, rfl, rfl, HA.out⟩
  case round =>
    obtain ⟨k, hk, rfl, rfl, hS⟩ := hrel
    have HS := Lib.hid hS
    clear hS
    by_cases hlt : k < n
    · have d1 : decide ((k : Int) < (n : Int)) = true := decide_eq_true (by omega)
      obtain ⟨hrA, hrB⟩ := HR.out.kept (HS.out.kept)
      obtain ⟨b, o, rfl, hc⟩ := hrA (by omega)
      obtain ⟨c0, c1, c2⟩ := hc k hlt
      obtain ⟨l1, l2, hr2⟩ := HR.out.2 k hlt
      have HR2 := Lib.hid hr2
      obtain ⟨v1, v2⟩ := wkE_at HE.out hlt
      have HV := Lib.hid v2
      have HSU := Lib.hid (show lgS C an az (k + 1) = fun j => if j = k then wrap64 (lgI (lgS C an az k k) (lgS C an az k) (az k) (an k) + C k) else lgS C an az k j from rfl)
      have HMU := Lib.hid (show lgM C an az (k + 1) = mxI (lgM C an az k) (lgS C an az (k + 1) k) from rfl)
      unfold maxLen at l2
      clear hrA hrB hc hr2 v2
      generalize lgM C an az k = M0 at *
      generalize lgS C an az k = S0 at *
      generalize C k = Ck at *
      generalize R k = Rk at *
      generalize an k = p at *
      generalize ac k = pc at *
      generalize az k = zz at *
      generalize AA k = D at *
      go_upto_region 11 with fail
      refine of_world (fun W3 hW => ?_)
      have k3 : Kept None' wr W3 := by rw [hW]; exact (Kept.refl _ _).alloc _ _
      have b0 : W3.cell? ⟨wr.heap.size, 0, none⟩ = some (.int .i64 Ck) := by rw [hW]; exact cell_alloc_one wr _ _ 0
      have b2 : W3.cell? ⟨wr.heap.size, 2, none⟩ = some (.slice D p pc) := by rw [hW]; exact cell_alloc_one wr _ _ 2
      have HS3 := Lib.hid (HS.out.step k3)
      have hQT : Q < wr.heap.size := by have : Q < wr.heap.size := cell_lt (HS.out.cell k hlt)
                                        exact this
      have HBT := Lib.hid (And.intro b0 (And.intro b2 hQT))
      clear hW k3 c0 c1 c2 b0 hQT
      generalize wr.heap.size = T at *
      go_wp2_with fail
      clear b2
      go_loopw [72] (fun sq wq => ∃ q : Nat, q ≤ p ∧ sq = .int .i64 (q : Int) ∧ wq.cell? ⟨T, 0, none⟩ = some (.int .i64 Ck) ∧ ArrS w1 Q n (fun j => .int .i64 (if j = k then lgI (S0 k) S0 zz q else S0 j)) wq) (fun sq _ => (p - intOf sq).toNat)
      case atStart => exact ⟨0, Nat.zero_le _, rfl, HBT.out.1, HS3.out.cong (fun j hj => by by_cases e : j = k <;> simp [e, lgI])⟩
      case round =>
        obtain ⟨q, hq, rfl, hb0, hS⟩ := hrel
        have HS4 := Lib.hid hS
        have HB0 := Lib.hid hb0
        by_cases hlt2 : q < p
        · have d2 : decide ((q : Int) < (p : Int)) = true := decide_eq_true (by omega)
          obtain ⟨b', o', rfl, hc'⟩ := (HR2.out.kept (HS4.out.kept)) (by omega)
          obtain ⟨y1, y2⟩ := HV.out q hlt2
          have f0 := hc' q hlt2
          have HI := Lib.hid (show lgI (S0 k) S0 zz (q + 1) = mxI (lgI (S0 k) S0 zz q) (S0 (zz q).toNat) from rfl)
          clear hc' hS hb0
          obtain ⟨i, hi⟩ := Int.eq_ofNat_of_zero_le y1
          simp only [hi] at f0
          have HI2 := Lib.hid (show lgI (S0 k) S0 zz (q + 1) = mxI (lgI (S0 k) S0 zz q) (S0 i) by rw [HI.out, hi]; rfl)
          have hik : i < k := by omega
          clear hi y1 y2 HI
          have e0 : wr.cell? ⟨Q, k, none⟩ = some (.int .i64 (lgI (S0 k) S0 zz q)) := by have := HS4.out.cell k hlt; rwa [if_pos rfl] at this
          have e1 : wr.cell? ⟨Q, i, none⟩ = some (.int .i64 (S0 i)) := by have := HS4.out.cell i (by omega); rwa [if_neg (by omega)] at this
          have z0 := HS4.out.fz k
          have i1 : (0 : Int) ≤ (i : Int) := by omega
          have i2 : (i : Int) < (n : Int) := by omega
          have i3 : (0 : Int) ≤ (k : Int) := by omega
          have i4 : (k : Int) < (n : Int) := by omega
          go_upto_region 14 with fail
          have A0 := ext_cell e0
          have A1 := ext_cell e1
          clear f0
          refine region_ext_tail 12 (by kernel_rfl) (by kernel_rfl) ?_
          simp only [List.take_succ_cons, List.take_zero, List.drop_succ_cons, List.drop_zero]
          repeat (first
            | go_big_quiet_skip
            | (go_big_quiet_want; go_big_quiet_op; first | go_big_quiet_on | go_big_quiet_call (first
              | (fail))))
          refine wpQuiet_nil ?_
          rintro _ ⟨xq, rfl⟩
          have kx := ext_kept wr xq
          have HS5 := Lib.hid (HS4.out.step kx)
          have e0' := kx.some e0 id
          have z0' := (kx.frozen _).trans z0
          have HB5 := Lib.hid (kx.some HB0.out id)
          clear kx e0 e1 z0 A0 A1
          generalize ext wr xq = W5 at *
          go_wp2_with fail
          go_roundw
          case rel =>
            have hBT := HBT.out.2.2
            refine ⟨q + 1, by omega, by go_num, cell_set_ne HB5.out (Or.inl (by omega)), HS5.out.set hlt (fun j hj => ?_)⟩
            by_cases e : j = k
            · subst e; rw [if_pos rfl, if_pos rfl, HI2.out]
            · rw [if_neg e, if_neg e, if_neg e]
          case measure => simp [intOf]; omega
        · obtain rfl : q = p := by omega
          have d2 : decide ((q : Int) < (q : Int)) = false := by simp
          have e0 : wr.cell? ⟨Q, k, none⟩ = some (.int .i64 (lgI (S0 k) S0 zz q)) := by have := HS4.out.cell k hlt; rwa [if_pos rfl] at this
          have z0 := HS4.out.fz k
          have i3 : (0 : Int) ≤ (k : Int) := by omega
          have i4 : (k : Int) < (n : Int) := by omega
          generalize hL : lgI (S0 k) S0 zz q = L at *
          go_upto_region 16 with fail
          have A0 := ext_cell e0
          have A1 := ext_cell hb0
          clear hb0 hS hL
          refine region_ext_tail 8 (by kernel_rfl) (by kernel_rfl) ?_
          simp only [List.take_succ_cons, List.take_zero, List.drop_succ_cons, List.drop_zero]
          repeat (first
            | go_big_quiet_skip
            | (go_big_quiet_want; go_big_quiet_op; first | go_big_quiet_on | go_big_quiet_call (first
              | (fail))))
          refine wpQuiet_nil ?_
          rintro _ ⟨xq, rfl⟩
          have kx := ext_kept wr xq
          have HS5 := Lib.hid (HS4.out.step kx)
          have e0' := kx.some e0 id
          have z0' := (kx.frozen _).trans z0
          clear kx e0 z0 A0 A1
          generalize ext wr xq = W5 at *
          go_upto_region 17 with fail
          refine of_world (fun W6 hW => ?_)
          have HS6 := Lib.hid (show ArrS w1 Q n (fun j => .int .i64 (lgS C an az (k + 1) j)) W6 by
            rw [hW]
            refine HS5.out.set hlt (fun j hj => ?_)
            rw [HSU.out]
            by_cases e : j = k
            · simp [e]
            · simp [e])
          have e6 := HS6.out.cell k hlt
          clear hW e0' z0'
          generalize lgS C an az (k + 1) k = X at *
          go_wp2_with fail
          go_roundw
          case rel => exact ⟨k + 1, by omega, by go_num, by rw [HMU.out], HS6.out⟩
          case measure => simp [intOf]; omega
    · obtain rfl : k = n := by omega
      have d1 : decide ((k : Int) < (k : Int)) = false := by simp
      have HX := Lib.hid HM.out
      have g7 : (M != lgM C an az k) = false := by rw [HX.out]; simp
      have K5 := Lib.hid HS.out.kept
      clear HS HA
      go_upto_region 22 with fail
      clear g7
      generalize lgM C an az k = MM at *
      go_loopw [9, 113] (fun s9 s113 wr => ∃ j : Nat, j ≤ m ∧ s113 = .int .i64 (j : Int) ∧ s9 = .int .i64 (firE (fun r => if inB (F 0 r) 0 ((k : Int) - 1) = true then 0 else 11) j) ∧ Kept None' w1 wr) (fun _ s113 _ => (m - intOf s113).toNat)
      case atStart => exact ⟨0, Nat.zero_le _, rfl, rfl, K5.out⟩
      case round =>
        obtain ⟨j, hj, rfl, rfl, hkp⟩ := hrel
        have K := Lib.hid hkp
        clear hkp
        by_cases hlt : j < m
        · have d2 : decide ((j : Int) < (m : Int)) = true := decide_eq_true (by omega)
          obtain ⟨b, o, rfl, hc⟩ := (HRN.out.kept K.out) (by omega)
          obtain ⟨c0, c1, c2, c3, c4⟩ := hc j hlt
          have HSU := Lib.hid (show firE (fun r => if inB (F 0 r) 0 ((k : Int) - 1) = true then (0 : Int) else 11) (j + 1) = if firE (fun r => if inB (F 0 r) 0 ((k : Int) - 1) = true then (0 : Int) else 11) j ≠ 0 then firE (fun r => if inB (F 0 r) 0 ((k : Int) - 1) = true then (0 : Int) else 11) j else (if inB (F 0 j) 0 ((k : Int) - 1) = true then 0 else 11) from rfl)
          clear hc
          obtain ⟨e0, he0⟩ : ∃ e0, firE (fun r => if inB (F 0 r) 0 ((k : Int) - 1) = true then (0 : Int) else 11) j = e0 := ⟨_, rfl⟩
          have HE0 := Lib.hid he0
          rw [he0]
          clear he0
          obtain ⟨c, hcc⟩ : ∃ c, inB (F 0 j) 0 ((k : Int) - 1) = c := ⟨_, rfl⟩
          obtain ⟨v, hv⟩ : ∃ v : Int, (if (!c) = true then (11 : Int) else 0) = v := ⟨_, rfl⟩
          obtain ⟨e1, he1⟩ : ∃ e1 : Int, (if e0 ≠ 0 then e0 else v) = e1 := ⟨_, rfl⟩
          have HS1 := Lib.hid (show firE (fun r => if inB (F 0 r) 0 ((k : Int) - 1) = true then (0 : Int) else 11) (j + 1) = e1 by rw [HSU.out, HE0.out, hcc, ← he1, ← hv]; cases c <;> rfl)
          have HCC := Lib.hid hcc
          have HVV := Lib.hid hv
          have HE1 := Lib.hid he1
          clear hcc hv he1 HSU
          generalize F 0 j = x at *
          generalize F 1 j = x1 at *
          generalize F 2 j = x2 at *
          generalize F 3 j = x3 at *
          go_wp2_with (first
            | (go_at_call 18; refine (in_one _ _ _ _).mono ?_; rw [HCC.out]; rintro e w' ⟨rfl, rfl⟩)
            | (go_at_call 17; refine (when_any _ _ _).mono ?_; rw [HVV.out]; rintro e w' ⟨rfl, rfl⟩)
            | (go_at_call 16; refine (first2_any _ _ e0 v _ (by go_simp) (by go_simp)).mono ?_; rw [HE1.out]; rintro e w' ⟨rfl, rfl⟩))
          go_roundw
          case rel => exact ⟨j + 1, by omega, by go_num, by rw [HS1.out], (K.out.alloc _ _).alloc _ _⟩
          case measure => simp [intOf]; omega
        · obtain rfl : j = m := by omega
          have d2 : decide ((j : Int) < (j : Int)) = false := by simp
          have HW := Lib.hid (firE_bad HOK.out)
          go_upto_region 26 with fail
          rw [HW.out]
          go_wp2_with fail
          go_ret
          exact ⟨rfl, K1.out.trans K.out⟩

set_option linter.unusedSimpArgs false in
set_option linter.unusedVariables false in
set_option maxHeartbeats 8000000 in
set_option maxRecDepth 100000 in
theorem dm_good (A : Option Addr) (n cap : Nat) (C R : Nat → Int) (AA : Nat → Option Addr) (an ac : Nat → Nat) (az : Nat → Nat → Int) (B : Option Addr) (m capm : Nat) (F : Nat → Nat → Int) (G : Nat → Bool) (w : World) (hn : n ≤ cap) (hcap : cap ≤ 9223372036854775807) (hr : WkR w A n C R AA an ac az) (hm : m ≤ capm) (hcapm : capm ≤ 9223372036854775807) (hrn : RnR w B m F G) (hE : wkE n C R an az = 0) (hok : okR (F 0) n m) :
    Calls Try.prog 4 #[.slice A n cap, .slice B m capm] w fun e w' => e = .returned (.bool true) ∧ Kept None' w w' := by
  have hl := wkE_len hE
  have HR := Lib.hid hr
  have HRN := Lib.hid hrn
  have HE := Lib.hid hE
  have HOK := Lib.hid hok
  clear hr hE hrn hok
  have HMK := Lib.hid (run_make_row' (P := Try.prog) 38 3 (.int .i64 0) 8 Try.underlying38 (by kernel_rfl) rfl .i64 .i64 n (by omega) (by omega))
  obtain ⟨M, hM⟩ : ∃ M, lgM C an az n = M := ⟨_, rfl⟩
  have HM := Lib.hid hM
  clear hM
  go_enter Try.func4, Try.ntmps4
  go_upto_region 6 with (first
    | (go_at_call 13; refine (done_good A n cap C R AA an ac az B m capm F G _ hn hcap HR.out hm hcapm HRN.out HE.out HOK.out).mono ?_; rintro e w1 ⟨A1, c1, rfl, hrd, hk⟩; have HRD := Lib.hid hrd; have K1 := Lib.hid hk; clear hrd hk)
    | (go_at_call 14; refine (long_ok A n cap C R AA an ac az _ hn hcap (HR.out.kept K1.out) HE.out).mono ?_; rw [HM.out]; rintro e w2 ⟨rfl, hk⟩; have K2 := Lib.hid hk; clear hk)
    | (go_at_call 15; refine (workerror_any A n cap C R AA an ac az _ hn hcap ((HR.out.kept K1.out).kept K2.out)).mono ?_; rw [HE.out]; rintro e w3 ⟨rfl, hk⟩; have K3 := Lib.hid (K2.out.trans hk); clear hk)
    | (go_at_call 11; refine (farms_any _).mono ?_; rintro e w4 ⟨rfl, hk⟩; have K4 := Lib.hid (K3.out.trans hk); clear hk))
  have hmk := HMK.out
  have HR1 := Lib.hid (HR.out.kept K1.out)
  have HRN1 := Lib.hid (HRN.out.kept K1.out)
  clear HR HRN
  have HR := HR1
  have HRN := HRN1
  clear HR1 HRN1
  go_upto_region 7 with fail
  refine of_world (fun W2 hW => ?_)
  have HA := Lib.hid (arr_made (w0 := w1) K4.out hW)
  clear hW hmk
  generalize w4.heap.size = Q at *
  go_wp2_with fail
  go_loopw [11, 64] (fun so sk wr => ∃ k : Nat, k ≤ n ∧ sk = .int .i64 (k : Int) ∧ so = .int .i64 (lgM C an az k) ∧ ArrS w1 Q n (fun j => .int .i64 (lgS C an az k j)) wr) (fun _ sk _ => (n - intOf sk).toNat)
  case atStart => exact ⟨0, Nat.zero_le _, rfl, rfl, HA.out⟩
  case round =>
    obtain ⟨k, hk, rfl, rfl, hS⟩ := hrel
    have HS := Lib.hid hS
    clear hS
    by_cases hlt : k < n
    · have d1 : decide ((k : Int) < (n : Int)) = true := decide_eq_true (by omega)
      obtain ⟨hrA, hrB⟩ := HR.out.kept (HS.out.kept)
      obtain ⟨b, o, rfl, hc⟩ := hrA (by omega)
      obtain ⟨c0, c1, c2⟩ := hc k hlt
      obtain ⟨l1, l2, hr2⟩ := HR.out.2 k hlt
      have HR2 := Lib.hid hr2
      obtain ⟨v1, v2⟩ := wkE_at HE.out hlt
      have HV := Lib.hid v2
      have HSU := Lib.hid (show lgS C an az (k + 1) = fun j => if j = k then wrap64 (lgI (lgS C an az k k) (lgS C an az k) (az k) (an k) + C k) else lgS C an az k j from rfl)
      have HMU := Lib.hid (show lgM C an az (k + 1) = mxI (lgM C an az k) (lgS C an az (k + 1) k) from rfl)
      unfold maxLen at l2
      clear hrA hrB hc hr2 v2
      generalize lgM C an az k = M0 at *
      generalize lgS C an az k = S0 at *
      generalize C k = Ck at *
      generalize R k = Rk at *
      generalize an k = p at *
      generalize ac k = pc at *
      generalize az k = zz at *
      generalize AA k = D at *
      go_upto_region 11 with fail
      refine of_world (fun W3 hW => ?_)
      have k3 : Kept None' wr W3 := by rw [hW]; exact (Kept.refl _ _).alloc _ _
      have b0 : W3.cell? ⟨wr.heap.size, 0, none⟩ = some (.int .i64 Ck) := by rw [hW]; exact cell_alloc_one wr _ _ 0
      have b2 : W3.cell? ⟨wr.heap.size, 2, none⟩ = some (.slice D p pc) := by rw [hW]; exact cell_alloc_one wr _ _ 2
      have HS3 := Lib.hid (HS.out.step k3)
      have hQT : Q < wr.heap.size := by have : Q < wr.heap.size := cell_lt (HS.out.cell k hlt)
                                        exact this
      have HBT := Lib.hid (And.intro b0 (And.intro b2 hQT))
      clear hW k3 c0 c1 c2 b0 hQT
      generalize wr.heap.size = T at *
      go_wp2_with fail
      clear b2
      go_loopw [72] (fun sq wq => ∃ q : Nat, q ≤ p ∧ sq = .int .i64 (q : Int) ∧ wq.cell? ⟨T, 0, none⟩ = some (.int .i64 Ck) ∧ ArrS w1 Q n (fun j => .int .i64 (if j = k then lgI (S0 k) S0 zz q else S0 j)) wq) (fun sq _ => (p - intOf sq).toNat)
      case atStart => exact ⟨0, Nat.zero_le _, rfl, HBT.out.1, HS3.out.cong (fun j hj => by by_cases e : j = k <;> simp [e, lgI])⟩
      case round =>
        obtain ⟨q, hq, rfl, hb0, hS⟩ := hrel
        have HS4 := Lib.hid hS
        have HB0 := Lib.hid hb0
        by_cases hlt2 : q < p
        · have d2 : decide ((q : Int) < (p : Int)) = true := decide_eq_true (by omega)
          obtain ⟨b', o', rfl, hc'⟩ := (HR2.out.kept (HS4.out.kept)) (by omega)
          obtain ⟨y1, y2⟩ := HV.out q hlt2
          have f0 := hc' q hlt2
          have HI := Lib.hid (show lgI (S0 k) S0 zz (q + 1) = mxI (lgI (S0 k) S0 zz q) (S0 (zz q).toNat) from rfl)
          clear hc' hS hb0
          obtain ⟨i, hi⟩ := Int.eq_ofNat_of_zero_le y1
          simp only [hi] at f0
          have HI2 := Lib.hid (show lgI (S0 k) S0 zz (q + 1) = mxI (lgI (S0 k) S0 zz q) (S0 i) by rw [HI.out, hi]; rfl)
          have hik : i < k := by omega
          clear hi y1 y2 HI
          have e0 : wr.cell? ⟨Q, k, none⟩ = some (.int .i64 (lgI (S0 k) S0 zz q)) := by have := HS4.out.cell k hlt; rwa [if_pos rfl] at this
          have e1 : wr.cell? ⟨Q, i, none⟩ = some (.int .i64 (S0 i)) := by have := HS4.out.cell i (by omega); rwa [if_neg (by omega)] at this
          have z0 := HS4.out.fz k
          have i1 : (0 : Int) ≤ (i : Int) := by omega
          have i2 : (i : Int) < (n : Int) := by omega
          have i3 : (0 : Int) ≤ (k : Int) := by omega
          have i4 : (k : Int) < (n : Int) := by omega
          go_upto_region 14 with fail
          have A0 := ext_cell e0
          have A1 := ext_cell e1
          clear f0
          refine region_ext_tail 12 (by kernel_rfl) (by kernel_rfl) ?_
          simp only [List.take_succ_cons, List.take_zero, List.drop_succ_cons, List.drop_zero]
          repeat (first
            | go_big_quiet_skip
            | (go_big_quiet_want; go_big_quiet_op; first | go_big_quiet_on | go_big_quiet_call (first
              | (fail))))
          refine wpQuiet_nil ?_
          rintro _ ⟨xq, rfl⟩
          have kx := ext_kept wr xq
          have HS5 := Lib.hid (HS4.out.step kx)
          have e0' := kx.some e0 id
          have z0' := (kx.frozen _).trans z0
          have HB5 := Lib.hid (kx.some HB0.out id)
          clear kx e0 e1 z0 A0 A1
          generalize ext wr xq = W5 at *
          go_wp2_with fail
          go_roundw
          case rel =>
            have hBT := HBT.out.2.2
            refine ⟨q + 1, by omega, by go_num, cell_set_ne HB5.out (Or.inl (by omega)), HS5.out.set hlt (fun j hj => ?_)⟩
            by_cases e : j = k
            · subst e; rw [if_pos rfl, if_pos rfl, HI2.out]
            · rw [if_neg e, if_neg e, if_neg e]
          case measure => simp [intOf]; omega
        · obtain rfl : q = p := by omega
          have d2 : decide ((q : Int) < (q : Int)) = false := by simp
          have e0 : wr.cell? ⟨Q, k, none⟩ = some (.int .i64 (lgI (S0 k) S0 zz q)) := by have := HS4.out.cell k hlt; rwa [if_pos rfl] at this
          have z0 := HS4.out.fz k
          have i3 : (0 : Int) ≤ (k : Int) := by omega
          have i4 : (k : Int) < (n : Int) := by omega
          generalize hL : lgI (S0 k) S0 zz q = L at *
          go_upto_region 16 with fail
          have A0 := ext_cell e0
          have A1 := ext_cell hb0
          clear hb0 hS hL
          refine region_ext_tail 8 (by kernel_rfl) (by kernel_rfl) ?_
          simp only [List.take_succ_cons, List.take_zero, List.drop_succ_cons, List.drop_zero]
          repeat (first
            | go_big_quiet_skip
            | (go_big_quiet_want; go_big_quiet_op; first | go_big_quiet_on | go_big_quiet_call (first
              | (fail))))
          refine wpQuiet_nil ?_
          rintro _ ⟨xq, rfl⟩
          have kx := ext_kept wr xq
          have HS5 := Lib.hid (HS4.out.step kx)
          have e0' := kx.some e0 id
          have z0' := (kx.frozen _).trans z0
          clear kx e0 z0 A0 A1
          generalize ext wr xq = W5 at *
          go_upto_region 17 with fail
          refine of_world (fun W6 hW => ?_)
          have HS6 := Lib.hid (show ArrS w1 Q n (fun j => .int .i64 (lgS C an az (k + 1) j)) W6 by
            rw [hW]
            refine HS5.out.set hlt (fun j hj => ?_)
            rw [HSU.out]
            by_cases e : j = k
            · simp [e]
            · simp [e])
          have e6 := HS6.out.cell k hlt
          clear hW e0' z0'
          generalize lgS C an az (k + 1) k = X at *
          go_wp2_with fail
          go_roundw
          case rel => exact ⟨k + 1, by omega, by go_num, by rw [HMU.out], HS6.out⟩
          case measure => simp [intOf]; omega
    · obtain rfl : k = n := by omega
      have d1 : decide ((k : Int) < (k : Int)) = false := by simp
      have HX := Lib.hid HM.out
      have g7 : (M != lgM C an az k) = false := by rw [HX.out]; simp
      have K5 := Lib.hid HS.out.kept
      clear HS HA
      go_upto_region 22 with fail
      clear g7
      generalize lgM C an az k = MM at *
      go_loopw [9, 113] (fun s9 s113 wr => ∃ j : Nat, j ≤ m ∧ s113 = .int .i64 (j : Int) ∧ s9 = .int .i64 (firE (fun r => if inB (F 0 r) 0 ((k : Int) - 1) = true then 0 else 11) j) ∧ Kept None' w1 wr) (fun _ s113 _ => (m - intOf s113).toNat)
      case atStart => exact ⟨0, Nat.zero_le _, rfl, rfl, K5.out⟩
      case round =>
        obtain ⟨j, hj, rfl, rfl, hkp⟩ := hrel
        have K := Lib.hid hkp
        clear hkp
        by_cases hlt : j < m
        · have d2 : decide ((j : Int) < (m : Int)) = true := decide_eq_true (by omega)
          obtain ⟨b, o, rfl, hc⟩ := (HRN.out.kept K.out) (by omega)
          obtain ⟨c0, c1, c2, c3, c4⟩ := hc j hlt
          have HSU := Lib.hid (show firE (fun r => if inB (F 0 r) 0 ((k : Int) - 1) = true then (0 : Int) else 11) (j + 1) = if firE (fun r => if inB (F 0 r) 0 ((k : Int) - 1) = true then (0 : Int) else 11) j ≠ 0 then firE (fun r => if inB (F 0 r) 0 ((k : Int) - 1) = true then (0 : Int) else 11) j else (if inB (F 0 j) 0 ((k : Int) - 1) = true then 0 else 11) from rfl)
          clear hc
          obtain ⟨e0, he0⟩ : ∃ e0, firE (fun r => if inB (F 0 r) 0 ((k : Int) - 1) = true then (0 : Int) else 11) j = e0 := ⟨_, rfl⟩
          have HE0 := Lib.hid he0
          rw [he0]
          clear he0
          obtain ⟨c, hcc⟩ : ∃ c, inB (F 0 j) 0 ((k : Int) - 1) = c := ⟨_, rfl⟩
          obtain ⟨v, hv⟩ : ∃ v : Int, (if (!c) = true then (11 : Int) else 0) = v := ⟨_, rfl⟩
          obtain ⟨e1, he1⟩ : ∃ e1 : Int, (if e0 ≠ 0 then e0 else v) = e1 := ⟨_, rfl⟩
          have HS1 := Lib.hid (show firE (fun r => if inB (F 0 r) 0 ((k : Int) - 1) = true then (0 : Int) else 11) (j + 1) = e1 by rw [HSU.out, HE0.out, hcc, ← he1, ← hv]; cases c <;> rfl)
          have HCC := Lib.hid hcc
          have HVV := Lib.hid hv
          have HE1 := Lib.hid he1
          clear hcc hv he1 HSU
          generalize F 0 j = x at *
          generalize F 1 j = x1 at *
          generalize F 2 j = x2 at *
          generalize F 3 j = x3 at *
          go_wp2_with (first
            | (go_at_call 18; refine (in_one _ _ _ _).mono ?_; rw [HCC.out]; rintro e w' ⟨rfl, rfl⟩)
            | (go_at_call 17; refine (when_any _ _ _).mono ?_; rw [HVV.out]; rintro e w' ⟨rfl, rfl⟩)
            | (go_at_call 16; refine (first2_any _ _ e0 v _ (by go_simp) (by go_simp)).mono ?_; rw [HE1.out]; rintro e w' ⟨rfl, rfl⟩))
          go_roundw
          case rel => exact ⟨j + 1, by omega, by go_num, by rw [HS1.out], (K.out.alloc _ _).alloc _ _⟩
          case measure => simp [intOf]; omega
        · obtain rfl : j = m := by omega
          have d2 : decide ((j : Int) < (j : Int)) = false := by simp
          have HW := Lib.hid (firE_good HOK.out)
          go_upto_region 26 with fail
          rw [HW.out]
          go_wp2_with fail
          obtain ⟨i0, hi0, hz0, hz1, hz2⟩ := info_parts' int_info'
          have HI := Lib.hid (And.intro hi0 (And.intro hz0 (And.intro hz1 hz2)))
          clear hi0 hz0 hz1 hz2
          go_loopw [18, 141] (fun s18 s141 wr => ∃ (i : Nat) (v : Value), i ≤ k ∧ s141 = .int .i64 (i : Int) ∧ v = s18 ∧ LS w1 v (flt (fun i => dnB (F 0) G j i) i) wr) (fun _ s141 _ => (k - intOf s141).toNat)
          case atStart => exact ⟨0, _, Nat.zero_le _, rfl, rfl, LS.nil w1 K.out⟩
          case round =>
            obtain ⟨i, v, hi, rfl, rfl, hS⟩ := hrel
            have HS := Lib.hid hS
            clear hS
            by_cases hlt : i < k
            · have d3 : decide ((i : Int) < (k : Int)) = true := decide_eq_true (by omega)
              have hlen := flt_len (fun i => dnB (F 0) G j i) i
              go_upto_region 32 with fail
              refine of_world (fun W3 hW => ?_)
              have k3 : Kept None' wr W3 := by rw [hW]; exact (Kept.refl _ _).alloc _ _
              have t0 : W3.cell? ⟨wr.heap.size, 0, none⟩ = some (.int .i64 (i : Int)) := by rw [hW]; exact cell_alloc_one wr _ _ 0
              have HS3 := Lib.hid (HS.out.step k3)
              clear hW k3
              generalize wr.heap.size = T at *
              have HT0 := Lib.hid t0
              clear t0
              cases hc : dnB (F 0) G j (i : Int) with
              | true =>
                have HC := Lib.hid hc
                have HF := Lib.hid (flt_yes (f := fun i => dnB (F 0) G j i) hc)
                clear hc
                obtain ⟨hi0, hz0, hz1, hz2⟩ := HI.out
                go_upto_region 33 with (go_at_call 19; refine (containsf_runs B j capm F G (i : Int) T true _ (by omega) (HRN.out.kept HS3.out.1) HT0.out HC.out).mono ?_; rintro e w5 ⟨rfl, hk5⟩)
                have HS5 := Lib.hid (HS3.out.step hk5)
                have t5 := hk5.some HT0.out id
                clear hk5
                go_wp2_with (first
                  | (at_builtin; refine wpList_append_kept _ (by rfl) _ _ _ (by rfl) w1.heap.size 3 i0 _ 1 8 Try.underlying38 hi0 hz0 hz1 hz2 rfl (by omega) v (flt (fun i => dnB (F 0) G j i) i).length (flt (fun i => dnB (F 0) G j i) i) (by rfl)
                      (own_kept HS5.out.2 ((Kept.refl _ _).alloc _ _)) ⟨w5.heap.size, 0, none⟩ 1 1 [.int .i64 (i : Int)] (by rfl) rfl (news_one (cell_alloc_one w5 _ _ 0)) (by simp [Value.oneCell']) (by omega) (by unfold maxLen; omega) (by omega) (by have := HS5.out.1.size; simp; omega) ?_
                     intro g4 cap4 w6 hown4 hk4 hat4
                     have HO := Lib.hid (And.intro hown4 hk4)
                     clear hown4 hk4 hat4)
                  | fail)
                go_roundw
                case rel => exact ⟨i + 1, _, by omega, by go_num, rfl, by rw [HF.out]; exact HS5.out.app ((Kept.refl _ _).alloc _ _) HO.out.2 HO.out.1⟩
                case measure => simp [intOf]; omega
              | false =>
                have HC := Lib.hid hc
                have HF := Lib.hid (flt_no (f := fun i => dnB (F 0) G j i) hc)
                clear hc
                go_wp2_with (go_at_call 19; refine (containsf_runs B j capm F G (i : Int) T false _ (by omega) (HRN.out.kept HS3.out.1) HT0.out HC.out).mono ?_; rintro e w5 ⟨rfl, hk5⟩)
                go_roundw
                case rel => exact ⟨i + 1, _, by omega, by go_num, rfl, by rw [HF.out]; exact HS3.out.step hk5⟩
                case measure => simp [intOf]; omega
            · obtain rfl : i = k := by omega
              have d3 : decide ((i : Int) < (i : Int)) = false := by simp
              obtain ⟨A2, c2, rfl, l1, l2, hrd2⟩ := HS.out.slice
              obtain ⟨zf, hzf⟩ := flt_ints (fun i => dnB (F 0) G j i) i
              have hlen := flt_len (fun i => dnB (F 0) G j i) i
              have HQ1 := Lib.hid ((HRD.out.kept HS.out.1).cong hzf)
              have HQ2 := Lib.hid (hrd2.cong hzf)
              clear hrd2 hzf
              go_wp2_with (go_at_call 21; refine (equal_same A1 A2 _ c1 c2 zf _ (by omega) HQ1.out HQ2.out).mono ?_; rintro e w9 ⟨rfl, hk9⟩)
              go_ret
              exact ⟨rfl, K1.out.trans (HS.out.1.trans hk9)⟩

theorem walk_doneMatches (A : Option Addr) (n cap : Nat) (C R : Nat → Int) (AA : Nat → Option Addr) (an ac : Nat → Nat) (az : Nat → Nat → Int) (B : Option Addr) (m capm : Nat) (F : Nat → Nat → Int) (G : Nat → Bool) (w : World) (hn : n ≤ cap) (hcap : cap ≤ maxLen) (hr : WkR w A n C R AA an ac az) (hm : m ≤ capm) (hcapm : capm ≤ maxLen) (hrn : RnR w B m F G) :
    Calls Try.prog 4 #[.slice A n cap, .slice B m capm] w fun e w' => e = .returned (.bool true) ∧ Kept None' w w' := by
  unfold maxLen at hcap hcapm
  by_cases hE : wkE n C R an az = 0
  · by_cases hok : okR (F 0) n m
    · exact dm_good A n cap C R AA an ac az B m capm F G w hn (by omega) hr hm (by omega) hrn hE hok
    · exact dm_bad A n cap C R AA an ac az B m capm F G w hn (by omega) hr hm (by omega) hrn hE hok
  · exact dm_err A n cap C R AA an ac az B m capm F G w hn (by omega) hr hm (by omega) hrn _ rfl hE
end Go.Proofs.Ytflmfjimemhooaa
