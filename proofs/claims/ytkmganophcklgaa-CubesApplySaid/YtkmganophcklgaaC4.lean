/- The contract of cube.soft. Conditions: none. -/
import Derived.Test.YtkmganophcklgaaC3
namespace Go.Proofs.Ytkmganophcklgaa
open Go.RowKit
open Fl Fr
open BigFrame

theorem ar2_idx (b : Nat) (hb : b < 2) (w : World) : (Instr.index 126 (.agg #[.int .i64 (-1), .int .i64 1]) (.int .i64 (b : Int))).run Try.prog w = .ok (.int .i64 (if b = 0 then -1 else 1)) w := by
  obtain rfl | rfl : b = 0 ∨ b = 1 := by omega
  · kernel_rfl
  · kernel_rfl
/-- The box of a cube. -/
structure CubB (T : Nat) (S : Int) (lo hi b o n cap : Nat) (w : World) : Prop where
  c0 : w.cell? ⟨T, 0, none⟩ = some (.int .i64 S)
  c1 : w.cell? ⟨T, 1, none⟩ = some (.float .f32 lo)
  c2 : w.cell? ⟨T, 2, none⟩ = some (.float .f32 hi)
  c3 : w.cell? ⟨T, 3, none⟩ = some (.slice (some ⟨b, o, none⟩) n cap)
theorem CubB.step {A : Nat → Prop} {T : Nat} {S : Int} {lo hi b o n cap : Nat} {w w' : World} (h : CubB T S lo hi b o n cap w) (k : Kept A w w') (hA : ¬ A T) : CubB T S lo hi b o n cap w' :=
  ⟨k.some h.c0 hA, k.some h.c1 hA, k.some h.c2 hA, k.some h.c3 hA⟩
theorem nbP_a {i j k : Int} {a b c : Nat} (hb : b < 2) : nbP i j k (2 * a + b) c = (if c = 0 then i else if c = 1 then j else k) + (if c = a then (if b = 0 then -1 else 1) else 0) := by
  unfold nbP nbD
  have e1 : (2 * a + b) / 2 = a := by omega
  have e2 : (2 * a + b) % 2 = b := by omega
  rw [e1, e2]

theorem soft_one {Wv wx : World} {G x v : Nat} {nw od : Nat → Nat} (h : SfS Wv G (fun c => if c < x then nw c else od c) wx) (hx : x < 3) (hv : cl .f32 v = nw x) : SfS Wv G (fun c => if c < x + 1 then nw c else od c) (wx.setCell ⟨G, x, none⟩ (.float .f32 v)) := by
  refine h.set hx (by rw [if_pos (Nat.lt_succ_self _)]; exact hv) fun c _ hne => ?_
  by_cases q : c < x
  · rw [if_pos q, if_pos (by omega)]
  · rw [if_neg q, if_neg (by omega)]
theorem soft_two {Wv wx : World} {G x u v : Nat} {nw od : Nat → Nat} (h : SfS Wv G (fun c => if c < x then nw c else od c) wx) (hx : x < 3) (hv : cl .f32 v = nw x) : SfS Wv G (fun c => if c < x + 1 then nw c else od c) ((wx.setCell ⟨G, x, none⟩ (.float .f32 u)).setCell ⟨G, x, none⟩ (.float .f32 v)) := by
  have h1 := h.set (g' := fun c => if c = x then cl .f32 u else if c < x then nw c else od c) (v := u) hx (by rw [if_pos rfl]) fun c _ hne => by rw [if_neg hne]
  refine h1.set hx (by rw [if_pos (Nat.lt_succ_self _)]; exact hv) fun c _ hne => ?_
  rw [if_neg hne]
  by_cases q : c < x
  · rw [if_pos q, if_pos (by omega)]
  · rw [if_neg q, if_neg (by omega)]

set_option linter.unusedSimpArgs false in
set_option linter.unusedVariables false in
set_option maxHeartbeats 8000000 in
set_option maxRecDepth 100000 in
theorem soft_any (S : Int) (lo hi b o n cap : Nat) (E : Int → Int → Int → Nat → Nat) (i j k : Int) (w : World) (s1 : 2 ≤ S) (s2 : S ≤ 17) (i0 : 0 ≤ i) (i1 : i < S) (j0 : 0 ≤ j) (j1 : j < S) (k0 : 0 ≤ k) (k1 : k < S)
    (hE : ∀ (x y z : Int) (wr : World), Kept None' w wr → 0 ≤ x → x < S → 0 ≤ y → y < S → 0 ≤ z → z < S → Calls Try.prog 71 #[.agg #[.int .i64 S, .float .f32 lo, .float .f32 hi, .slice (some ⟨b, o, none⟩) n cap], .int .i64 x, .int .i64 y, .int .i64 z] wr fun e w' =>
      e = .returned (.agg #[.float .f32 (E x y z 0), .float .f32 (E x y z 1), .float .f32 (E x y z 2)]) ∧ Kept None' wr w') :
    Calls Try.prog 73 #[.agg #[.int .i64 S, .float .f32 lo, .float .f32 hi, .slice (some ⟨b, o, none⟩) n cap], .int .i64 i, .int .i64 j, .int .i64 k] w fun e w' =>
      ∃ r : Nat → Nat, e = .returned (.agg #[.float .f32 (r 0), .float .f32 (r 1), .float .f32 (r 2)]) ∧ (∀ c, c < 3 → cl .f32 (r c) = smF E S i j k c) ∧ Kept None' w w' := by
  have HE := Lib.hid hE
  clear hE
  have PB := Lib.hid (nbP_bd i0 i1 j0 j1 k0 k1)
  have V1 := Lib.hid (fun (a b : Nat) (ha : a < 3) (hb : b < 2) => nbV_one (S := S) s1 i0 i1 j0 j1 k0 k1 ha hb)
  go_enter Try.func73, Try.ntmps73
  go_upto_region 3 with (fail)
  refine of_world (fun W0 hW => ?_)
  have k0 : Kept None' w W0 := by rw [hW]; exact ((((Kept.refl None' w).alloc _ _).alloc _ _).alloc _ _)
  have hB : CubB w.heap.size S lo hi b o n cap W0 := by rw [hW]; exact ⟨by go_simp, by go_simp, by go_simp, by go_simp⟩
  have r0 : W0.cell? ⟨w.heap.size + 1, 0, none⟩ = some (.float .f32 0) := by rw [hW]; go_simp
  have r1 : W0.cell? ⟨w.heap.size + 1, 1, none⟩ = some (.float .f32 0) := by rw [hW]; go_simp
  have r2 : W0.cell? ⟨w.heap.size + 1, 2, none⟩ = some (.float .f32 0) := by rw [hW]; go_simp
  have g0 : W0.cell? ⟨w.heap.size + 1 + 1, 0, none⟩ = some (.float .f32 0) := by rw [hW]; go_simp
  have g1 : W0.cell? ⟨w.heap.size + 1 + 1, 1, none⟩ = some (.float .f32 0) := by rw [hW]; go_simp
  have g2 : W0.cell? ⟨w.heap.size + 1 + 1, 2, none⟩ = some (.float .f32 0) := by rw [hW]; go_simp
  have zz : ∀ a : Addr, w.heap.size ≤ a.block → W0.frozen? a = false := fun a ha => by rw [hW]; exact (frozen?_alloc_cells _ _ _ _).trans ((frozen?_alloc_cells _ _ _ _).trans ((frozen?_alloc_cells _ _ _ _).trans (frozen_new _ _ ha)))
  have hS0 : SfS W0 (w.heap.size + 1 + 1) (fun c => nbS E S i j k c (2 * 0)) W0 := ⟨Kept.refl _ _, fun _ => 0, fun c hc => by
    obtain rfl | rfl | rfl : c = 0 ∨ c = 1 ∨ c = 2 := by omega
    · exact ⟨g0, by show cl .f32 0 = 0; decide +kernel⟩
    · exact ⟨g1, by show cl .f32 0 = 0; decide +kernel⟩
    · exact ⟨g2, by show cl .f32 0 = 0; decide +kernel⟩⟩
  have hsz : W0.heap.size = w.heap.size + 3 := by rw [hW]; simp
  have HR := Lib.hid (And.intro r0 (And.intro r1 r2))
  have HS0 := Lib.hid hS0
  have HB := Lib.hid hB
  have Z0 := Lib.hid zz
  have K0 := Lib.hid k0
  have HZ := Lib.hid hsz
  clear hW zz k0 r0 r1 r2 g0 g1 g2 hS0 hB hsz
  generalize hG : w.heap.size + 1 + 1 = G at *
  generalize hR : w.heap.size + 1 = R at *
  generalize hT : w.heap.size = T at *
  have HN := Lib.hid (And.intro hG (And.intro hR hT))
  clear hG hR hT
  go_wp2_with fail
  go_loopw [10, 20] (fun s10 s20 wr => ∃ a : Nat, a ≤ 3 ∧ s20 = .int .i64 (a : Int) ∧ s10 = .int .i64 (nbN S i j k (2 * a) : Int) ∧ SfS W0 G (fun c => nbS E S i j k c (2 * a)) wr) (fun _ s20 _ => (3 - intOf s20).toNat)
  case atStart => exact ⟨0, by omega, rfl, by simp [nbN], HS0.out⟩
  case round =>
    obtain ⟨a, ha, rfl, rfl, hS⟩ := hrel
    have HS := Lib.hid hS
    clear hS
    have nb1 := nbN_le S i j k (2 * a)
    by_cases hlt : a < 3
    · have d1 : decide ((a : Int) < 3) = true := decide_eq_true (by omega)
      go_wp2_with fail
      go_loopw [10, 24] (fun s10 s24 wr2 => ∃ b : Nat, b ≤ 2 ∧ s24 = .int .i64 (b : Int) ∧ s10 = .int .i64 (nbN S i j k (2 * a + b) : Int) ∧ SfS W0 G (fun c => nbS E S i j k c (2 * a + b)) wr2) (fun _ s24 _ => (2 - intOf s24).toNat)
      case atStart => exact ⟨0, by omega, rfl, rfl, HS.out⟩
      case round =>
        obtain ⟨b', hb, rfl, rfl, hS⟩ := hrel
        have HS2 := Lib.hid hS
        clear hS
        have nb2 := nbN_le S i j k (2 * a + b')
        by_cases hlt2 : b' < 2
        · have d2 : decide ((b' : Int) < 2) = true := decide_eq_true (by omega)
          have ix := ar2_idx b' hlt2
          obtain ⟨dv, hdv⟩ : ∃ dv : Int, (if b' = 0 then -1 else 1) = dv := ⟨_, rfl⟩
          obtain ⟨X, hX⟩ : ∃ X : Nat → Int, ∀ c, X c = (if c = 0 then i else if c = 1 then j else k) := ⟨_, fun _ => rfl⟩
          have hP : ∀ c, nbP i j k (2 * a + b') c = X c + (if c = a then dv else 0) := fun c => by rw [nbP_a hlt2, hX, hdv]
          have hV1 := V1.out a b' hlt hlt2
          have hPB := PB.out (2 * a + b')
          have hVI := nbV_in (S := S) (i := i) (j := j) (k := k) (t := 2 * a + b')
          have hSN := fun c => nbS_no (E := E) (c := c) (S := S) (i := i) (j := j) (k := k) (t := 2 * a + b')
          have hNN := nbN_no (S := S) (i := i) (j := j) (k := k) (t := 2 * a + b')
          have hNY := nbN_yes (S := S) (i := i) (j := j) (k := k) (t := 2 * a + b')
          have hSY := fun c => nbS_yes (E := E) (S := S) (i := i) (j := j) (k := k) (c := c) (t := 2 * a + b')
          have dv1 : -1 ≤ dv ∧ dv ≤ 1 := by rw [← hdv]; split <;> omega
          have xb : 0 ≤ X a ∧ X a ≤ 16 := by rw [hX]; split <;> (try split) <;> omega
          rw [hdv] at ix
          have X0 := hX 0
          have X1 := hX 1
          have X2 := hX 2
          simp at X0 X1 X2
          obtain ⟨dv1, dv2⟩ := dv1
          obtain ⟨xb1, xb2⟩ := xb
          obtain ⟨p, hp⟩ : ∃ p : Nat → Int, ∀ c, nbP i j k (2 * a + b') c = p c := ⟨_, fun _ => rfl⟩
          simp only [hp] at hP hV1 hPB hVI hSY
          obtain ⟨m, hm⟩ : ∃ m : Nat, nbN S i j k (2 * a + b') = m := ⟨_, rfl⟩
          simp only [hm] at hNN hNY hSY nb2
          rw [hm]
          have HX := Lib.hid (And.intro X0 (And.intro X1 X2))
          have HP := Lib.hid (And.intro hP (And.intro hV1 (And.intro hPB (And.intro hVI (And.intro hSN (And.intro hNN (And.intro hNY hSY)))))))
          have HM := Lib.hid hm
          clear hdv hX X0 X1 X2 hp hm hP hV1 hPB hVI hSN hNN hNY hSY
          have e0 : 0 ≤ (a : Int) := by omega
          have e1 : (a : Int) < 3 := by omega
          go_upto_region 10 with (fail)
          refine of_world (fun W1 hW1 => ?_)
          have k1 : Kept None' wr W1 := by rw [hW1]; exact (Kept.refl _ _).alloc _ _
          have pc : ∀ c, c < 3 → W1.cell? ⟨wr.heap.size, c, none⟩ = some (.int .i64 (X c)) := fun c hc => by
            rw [hW1]
            obtain ⟨x0, x1, x2⟩ := HX.out
            obtain rfl | rfl | rfl : c = 0 ∨ c = 1 ∨ c = 2 := by omega
            · rw [x0]; exact cell_alloc_one wr _ _ 0
            · rw [x1]; exact cell_alloc_one wr _ _ 1
            · rw [x2]; exact cell_alloc_one wr _ _ 2
          have pz : ∀ c, W1.frozen? ⟨wr.heap.size, c, none⟩ = false := fun c => by rw [hW1]; exact (frozen?_alloc_cells _ _ _ _).trans (frozen_new _ _ (Nat.le_refl _))
          obtain ⟨P, hPP⟩ : ∃ P, wr.heap.size = P := ⟨_, rfl⟩
          rw [hPP] at pc pz
          rw [hPP]
          have pa := pc a hlt
          have za := pz a
          have PC := Lib.hid (And.intro pc (And.intro k1 hPP))
          clear hW1 pc pz k1 hPP
          go_upto_region 11 with (fail)
          refine of_world (fun W2 hW2 => ?_)
          have k2 : Kept None' wr W2 := by rw [hW2]; exact Kept.setCell PC.out.2.1 (Or.inl (by rw [PC.out.2.2]; exact Nat.le_refl _)) _
          have pc : ∀ c, c < 3 → W2.cell? ⟨P, c, none⟩ = some (.int .i64 (p c)) := fun c hc => by
            rw [hW2, HP.out.1 c]
            by_cases e : c = a
            · subst e; rw [if_pos rfl]; exact cell_set_eq (PC.out.1 c hc)
            · rw [if_neg e, Int.add_zero]; exact cell_set_ne (PC.out.1 c hc) (Or.inr (fun q => e q.symm))
          have A0 := ext_cell (pc a hlt)
          have A1 := ext_cell ((HB.out.step HS2.out.kept (by have := HN.out; omega)).step k2 id).c0
          have K2 := Lib.hid (And.intro k2 pc)
          clear pa za hW2 k2 pc
          obtain ⟨pv, hpv⟩ : ∃ pv, p a = pv := ⟨_, rfl⟩
          rw [hpv] at A0
          have HPV := Lib.hid hpv
          clear hpv
          have hin : ¬ (0 ≤ pv ∧ pv < S) → nbV S i j k (2 * a + b') = false := fun h => by
            rw [HP.out.2.1, HPV.out]
            by_cases q1 : 0 ≤ pv
            · rw [show decide (pv < S) = false from decide_eq_false (fun q => h ⟨q1, q⟩), Bool.and_false]
            · rw [show decide (0 ≤ pv) = false from decide_eq_false q1, Bool.false_and]
          have hyes : 0 ≤ pv → pv < S → nbV S i j k (2 * a + b') = true := fun h h' => by
            rw [HP.out.2.1, HPV.out, decide_eq_true h, decide_eq_true h']; rfl
          have HIN := Lib.hid (And.intro hin hyes)
          clear hin hyes
          cases q1 : decide (pv < 0) with
          | true =>
            refine region_ext (by kernel_rfl) (by kernel_rfl) ?_
            repeat (first
              | go_big_quiet_skip
              | (go_big_quiet_want; go_big_quiet_op; first | go_big_quiet_on | go_big_quiet_call (first
                | (fail))))
            refine wpQuiet_nil ?_
            rintro _ ⟨xq, rfl⟩
            have K3 := Lib.hid (K2.out.1.trans (ext_kept _ xq))
            clear A0 A1
            generalize ext W2 xq = W3 at *
            go_wp2_with fail
            go_roundw
            case rel =>
              have hno := HIN.out.1 (by have := of_decide_eq_true q1; omega)
              refine ⟨b' + 1, by omega, by go_num, ?_, (HS2.out.step K3.out).congr (fun c _ => HP.out.2.2.2.2.1 c hno)⟩
              rw [show 2 * a + (b' + 1) = 2 * a + b' + 1 by omega, HP.out.2.2.2.2.2.1 hno]
            case measure => simp [intOf]; omega
          | false =>
            cases q2 : decide (S ≤ pv) with
            | true =>
              refine region_ext (by kernel_rfl) (by kernel_rfl) ?_
              repeat (first
                | go_big_quiet_skip
                | (go_big_quiet_want; go_big_quiet_op; first | go_big_quiet_on | go_big_quiet_call (first
                  | (fail))))
              refine wpQuiet_nil ?_
              rintro _ ⟨xq, rfl⟩
              have K3 := Lib.hid (K2.out.1.trans (ext_kept _ xq))
              clear A0 A1
              generalize ext W2 xq = W3 at *
              go_wp2_with fail
              go_roundw
              case rel =>
                have hno := HIN.out.1 (by have := of_decide_eq_true q2; omega)
                refine ⟨b' + 1, by omega, by go_num, ?_, (HS2.out.step K3.out).congr (fun c _ => HP.out.2.2.2.2.1 c hno)⟩
                rw [show 2 * a + (b' + 1) = 2 * a + b' + 1 by omega, HP.out.2.2.2.2.2.1 hno]
              case measure => simp [intOf]; omega
            | false =>
              have hyes := HIN.out.2 (by have := of_decide_eq_false q1; omega) (by have := of_decide_eq_false q2; omega)
              obtain ⟨⟨v0, v1⟩, ⟨v2, v3⟩, ⟨v4, v5⟩⟩ := HP.out.2.2.2.1 hyes
              have hY := HP.out.2.2.2.2.2.2.1 hyes
              have hSY := fun c => HP.out.2.2.2.2.2.2.2 c hyes
              have HY := Lib.hid (And.intro hY hSY)
              clear hyes hY hSY
              refine region_ext (by kernel_rfl) (by kernel_rfl) ?_
              repeat (first
                | go_big_quiet_skip
                | (go_big_quiet_want; go_big_quiet_op; first | go_big_quiet_on | go_big_quiet_call (first
                  | (fail))))
              refine wpQuiet_nil ?_
              rintro _ ⟨xq, rfl⟩
              have k3 := K2.out.1.trans (ext_kept _ xq)
              have kx := ext_kept W2 xq
              have p0 := kx.some (K2.out.2 0 (by omega)) id
              have p1 := kx.some (K2.out.2 1 (by omega)) id
              have p2 := kx.some (K2.out.2 2 (by omega)) id
              obtain ⟨t0, t1, t2, t3⟩ := (HB.out.step HS2.out.kept (by have := HN.out; omega)).step k3 id
              have K3 := Lib.hid k3
              have K4 := Lib.hid (kept_over K0.out (HS2.out.step k3).kept (fun q hq => by have := HN.out; omega))
              clear A0 A1 k3 kx
              generalize ext W2 xq = W3 at *
              go_upto_region 13 with (first
                | (go_at_call 71; refine (HE.out _ _ _ _ K4.out (by assumption) (by assumption) (by assumption) (by assumption) (by assumption) (by assumption)).mono ?_; rintro e w4 ⟨rfl, hk4⟩; have K5 := Lib.hid hk4; clear hk4))
              refine of_world (fun Wv hWv => ?_)
              obtain ⟨e, he⟩ : ∃ e : Nat → Nat, ∀ c, E (p 0) (p 1) (p 2) c = e c := ⟨_, fun _ => rfl⟩
              simp only [he] at hWv
              have kv : Kept None' w4 Wv := by rw [hWv]; exact (Kept.refl _ _).alloc _ _
              have vc : ∀ c, c < 3 → Wv.cell? ⟨w4.heap.size, c, none⟩ = some (.float .f32 (e c)) := fun c hc => by
                rw [hWv]
                obtain rfl | rfl | rfl : c = 0 ∨ c = 1 ∨ c = 2 := by omega
                · exact cell_alloc_one w4 _ _ 0
                · exact cell_alloc_one w4 _ _ 1
                · exact cell_alloc_one w4 _ _ 2
              have hSv := HS2.out.step (K3.out.trans (K5.out.trans kv))
              have lG : G < w4.heap.size := by
                obtain ⟨r, hr⟩ := (HS2.out.step (K3.out.trans K5.out)).cells
                exact cell_lt (hr 0 (by omega)).1
              obtain ⟨V, hV⟩ : ∃ V, w4.heap.size = V := ⟨_, rfl⟩
              simp only [hV] at vc lG
              rw [hV]
              have zG : ∀ c, Wv.frozen? ⟨G, c, none⟩ = false := fun c => (hSv.kept.frozen _).trans (Z0.out _ (by have := HN.out; show T ≤ G; omega))
              have HV := Lib.hid (And.intro vc (And.intro zG lG))
              have HSv := Lib.hid hSv
              have HE2 := Lib.hid he
              clear hWv kv vc zG hSv lG hV he p0 p1 p2 t0 t1 t2 t3
              clear v0 v1 v2 v3 v4 v5
              cases hm0 : ((m : Int) == 0) with
              | _ =>
                have hsum : ∀ c, nbS E S i j k c (2 * a + b' + 1) = if m = 0 then cl .f32 (e c) else fC .add .f32 (nbS E S i j k c (2 * a + b')) (e c) := fun c => by
                  rw [HY.out.2 c, HE2.out]
                have HSum := Lib.hid hsum
                clear hsum
                go_wp2_with fail
                go_loopw [57] (fun s57 wr3 => ∃ x : Nat, x ≤ 3 ∧ s57 = .int .i64 (x : Int) ∧ SfS Wv G (fun c => if c < x then nbS E S i j k c (2 * a + b' + 1) else nbS E S i j k c (2 * a + b')) wr3) (fun s57 _ => (3 - intOf s57).toNat)
                case atStart => exact ⟨0, by omega, rfl, Kept.refl _ _, by simpa using HSv.out.cells⟩
                case round =>
                  obtain ⟨x, hx, rfl, hS⟩ := hrel
                  have HS3 := Lib.hid hS
                  obtain ⟨r, hr⟩ := hS.cells
                  clear hS
                  by_cases hx3 : x < 3
                  · have d3 : decide ((x : Int) < 3) = true := decide_eq_true (by omega)
                    have f0 : 0 ≤ (x : Int) := by omega
                    have f1 : (x : Int) < 3 := by omega
                    have A0 := ext_cell (hr x hx3).1
                    have A1 := ext_cell (HS3.out.kept.some (HV.out.1 x hx3) (by have := HV.out.2.2; show ¬ V = G; omega))
                    have hrx := (hr x hx3).2
                    simp only [Nat.lt_irrefl, if_false] at hrx
                    have HRX := Lib.hid hrx
                    clear hr hrx
                    go_wp2_with fail
                    refine region_with_tail 8 (by kernel_rfl) (by kernel_rfl) ?_
                    simp only [List.take_succ_cons, List.take_zero, List.drop_succ_cons, List.drop_zero]
                    repeat (first
                      | (refine wpWith_det ?_; go_big_quiet_want; go_big_quiet_op; go_big_quiet_on; refine wpQuiet_nil ?_)
                      | (refine wpWith_det ?_; go_big_quiet_skip; refine wpQuiet_nil ?_)
                      | fail)
                    refine wpWith_float (by rfl) rfl (by simp) rfl rfl (fun r1 hr1 => ?_)
                    simp only [Act.put, List.setIfInBounds_toArray, List.set_cons_zero, List.set_cons_succ]
                    repeat (first
                      | (refine wpWith_det ?_; go_big_quiet_want; go_big_quiet_op; go_big_quiet_on; refine wpQuiet_nil ?_)
                      | (refine wpWith_det ?_; go_big_quiet_skip; refine wpQuiet_nil ?_)
                      | fail)
                    refine wpWith_nil ?_
                    rintro _ ⟨xq, rfl⟩
                    have hsx := HS3.out.step (ext_kept _ xq)
                    have zx : (ext wr xq).frozen? ⟨G, x, none⟩ = false := (hsx.kept.frozen _).trans (HV.out.2.1 x)
                    have cv := hsx.kept.some (HV.out.1 x hx3) (by have := HV.out.2.2; show ¬ V = G; omega)
                    have HR1 := Lib.hid (show cl .f32 r1 = fC .add .f32 (nbS E S i j k x (2 * a + b')) (e x) by rw [hr1, ← HRX.out, fC_cl_l])
                    obtain ⟨r', hr'⟩ := hsx.cells
                    have cg := (hr' x hx3).1
                    have HSX := Lib.hid hsx
                    clear A0 A1 hr1 hsx hr'
                    generalize ext wr xq = wx at *
                    have cv2 : ∀ u, (wx.setCell ⟨G, x, none⟩ u).cell? ⟨V, x, none⟩ = some (.float .f32 (e x)) := fun u => cell_set_ne cv (Or.inl (by have := HV.out.2.2; omega))
                    have cv3 : ∀ u, (wx.setCell ⟨G, x, none⟩ u).frozen? ⟨G, x, none⟩ = false := fun u => (World.frozen?_setCell ..).trans zx
                    go_wp2_with fail
                    go_roundw
                    case rel =>
                      refine ⟨x + 1, by omega, by go_num, ?_⟩
                      first
                        | exact soft_one HSX.out hx3 (by rw [HSum.out x, if_neg (by simpa using hm0)]; exact HR1.out)
                        | exact soft_two HSX.out hx3 (by rw [HSum.out x, if_pos (by simpa using hm0)])
                    case measure => simp [intOf]; omega
                  · obtain rfl : x = 3 := by omega
                    have d3 : decide (((3 : Nat) : Int) < 3) = false := by decide
                    clear hr
                    have nbn : m + 1 ≤ 7 := by omega
                    go_wp2_with fail
                    go_roundw
                    case rel =>
                      refine ⟨b' + 1, by omega, by go_num, ?_, (SfS.from HSv.out.kept HS3.out).congr (fun c hc => ?_)⟩
                      · rw [show 2 * a + (b' + 1) = 2 * a + b' + 1 by omega, HY.out.1]; rfl
                      · rw [if_pos hc]; rfl
                    case measure => simp [intOf]; omega
        · obtain rfl : b' = 2 := by omega
          have d2 : decide (((2 : Nat) : Int) < 2) = false := by decide
          go_wp2_with fail
          go_roundw
          case rel =>
            exact ⟨a + 1, by omega, by go_num, by rw [show 2 * (a + 1) = 2 * a + 2 by omega], HS2.out⟩
          case measure => simp [intOf]; omega
    · obtain rfl : a = 3 := by omega
      have d1 : decide (((3 : Nat) : Int) < 3) = false := by decide
      obtain ⟨m, hm⟩ : ∃ m : Nat, nbN S i j k (2 * 3) = m := ⟨_, rfl⟩
      rw [hm] at nb1
      rw [hm]
      have HM := Lib.hid hm
      clear hm
      obtain ⟨t0, t1, t2, t3⟩ := HB.out.step HS.out.kept (by have := HN.out; omega)
      have K4 := Lib.hid (kept_over K0.out HS.out.kept (fun q hq => by have := HN.out; omega))
      go_upto_region 24 with (first
        | (go_at_call 71; refine (HE.out _ _ _ _ K4.out (by assumption) (by assumption) (by assumption) (by assumption) (by assumption) (by assumption)).mono ?_; rintro e w4 ⟨rfl, hk4⟩; have K5 := Lib.hid hk4; clear hk4))
      refine of_world (fun Wv hWv => ?_)
      obtain ⟨e, he⟩ : ∃ e : Nat → Nat, ∀ c, E i j k c = e c := ⟨_, fun _ => rfl⟩
      simp only [he] at hWv
      simp only [he]
      have kv : Kept None' w4 Wv := by rw [hWv]; exact (Kept.refl _ _).alloc _ _
      have vc : ∀ c, c < 3 → Wv.cell? ⟨w4.heap.size, c, none⟩ = some (.float .f32 (e c)) := fun c hc => by
        rw [hWv]
        obtain rfl | rfl | rfl : c = 0 ∨ c = 1 ∨ c = 2 := by omega
        · exact cell_alloc_one w4 _ _ 0
        · exact cell_alloc_one w4 _ _ 1
        · exact cell_alloc_one w4 _ _ 2
      have zv : ∀ c, Wv.frozen? ⟨w4.heap.size, c, none⟩ = false := fun c => by rw [hWv]; exact (frozen?_alloc_cells _ _ _ _).trans (frozen_new _ _ (Nat.le_refl _))
      have hSv := HS.out.step (K5.out.trans kv)
      have lG : G < w4.heap.size := by
        obtain ⟨r, hr⟩ := (HS.out.step K5.out).cells
        exact cell_lt (hr 0 (by omega)).1
      obtain ⟨V, hV⟩ : ∃ V, w4.heap.size = V := ⟨_, rfl⟩
      simp only [hV] at vc lG zv
      rw [hV]
      have a0 := vc 0 (by omega)
      have a1 := vc 1 (by omega)
      have a2 := vc 2 (by omega)
      have HV := Lib.hid (And.intro vc (And.intro zv lG))
      have HSv := Lib.hid hSv
      have HE2 := Lib.hid he
      clear hWv kv vc zv hSv lG hV he t0 t1 t2 t3
      obtain ⟨sm, hsm⟩ : ∃ sm : Nat → Nat, ∀ c, nbS E S i j k c (2 * 3) = sm c := ⟨_, fun _ => rfl⟩
      have hF : ∀ c, smF E S i j k c = fC .quo .f32 (fC .add .f32 (fC .mul .f32 (e c) 1073741824) (sm c)) (floatOfInt .f32 (2 + (m : Int))) := fun c => by
        unfold smF; rw [HE2.out, ← hsm, HM.out]
      have HF := Lib.hid hF
      have HSM := Lib.hid hsm
      clear hsm hF
      have wm : IntKind.i64.wrap (2 + (m : Int)) = 2 + (m : Int) := IntWalk.i64_in _ (by omega)
      go_wp2_with fail
      go_loopw [86] (fun s86 wr3 => ∃ x : Nat, x ≤ 3 ∧ s86 = .int .i64 (x : Int) ∧ SfS Wv V (fun c => if c < x then smF E S i j k c else cl .f32 (e c)) wr3) (fun s86 _ => (3 - intOf s86).toNat)
      case atStart => exact ⟨0, by omega, rfl, Kept.refl _ _, e, fun c hc => ⟨HV.out.1 c hc, by simp⟩⟩
      case round =>
        obtain ⟨x, hx, rfl, hS⟩ := hrel
        have HS3 := Lib.hid hS
        clear hS
        by_cases hx3 : x < 3
        · have d3 : decide ((x : Int) < 3) = true := decide_eq_true (by omega)
          have f0 : 0 ≤ (x : Int) := by omega
          have f1 : (x : Int) < 3 := by omega
          have ix := ar3_idx e x hx3
          obtain ⟨r, hr⟩ := HSv.out.cells
          have cg := HS3.out.kept.some (hr x hx3).1 (by have := HV.out.2.2; show ¬ G = V; omega)
          have hrx := (hr x hx3).2
          have zx : wr.frozen? ⟨V, x, none⟩ = false := (HS3.out.kept.frozen _).trans (HV.out.2.1 x)
          obtain ⟨r', hr'⟩ := HS3.out.cells
          have cx := (hr' x hx3).1
          have HRX := Lib.hid hrx
          clear hr hrx hr'
          go_wp2_with fail
          go_roundw
          case rel =>
            refine ⟨x + 1, by omega, by go_num, soft_one (HS3.out.step ((Kept.refl _ _).drew _)) hx3 ?_⟩
            rw [HF.out x, cl_fV', fC_fV_l, ← fC_cl_l .quo .f32 (fC .add .f32 _ _), cl_fC, fC_fV_l, ← fC_cl_r .add .f32 _ (r x), show cl .f32 (r x) = sm x from HRX.out.trans (HSM.out x)]
          case measure => simp [intOf]; omega
        · obtain rfl : x = 3 := by omega
          have d3 : decide (((3 : Nat) : Int) < 3) = false := by decide
          obtain ⟨r, hr⟩ := HS3.out.cells
          have c0 := (hr 0 (by omega)).1
          have c1 := (hr 1 (by omega)).1
          have c2 := (hr 2 (by omega)).1
          have h2 := HV.out.2.2
          obtain ⟨g0, g1, g2⟩ := HR.out
          have nG : ¬ R = G := by have := HN.out; omega
          have nV : ¬ R = V := by have := HN.out; omega
          have r0 := HS3.out.kept.some (HSv.out.kept.some g0 nG) nV
          have r1 := HS3.out.kept.some (HSv.out.kept.some g1 nG) nV
          have r2 := HS3.out.kept.some (HSv.out.kept.some g2 nG) nV
          have z0 := (HS3.out.kept.frozen ⟨R, 0, none⟩).trans ((HSv.out.kept.frozen _).trans (Z0.out _ (by have := HN.out; show T ≤ R; omega)))
          have z1 := (HS3.out.kept.frozen ⟨R, 1, none⟩).trans ((HSv.out.kept.frozen _).trans (Z0.out _ (by have := HN.out; show T ≤ R; omega)))
          have z2 := (HS3.out.kept.frozen ⟨R, 2, none⟩).trans ((HSv.out.kept.frozen _).trans (Z0.out _ (by have := HN.out; show T ≤ R; omega)))
          have HRR := Lib.hid (fun c hc => (hr c hc).2)
          have KE := Lib.hid (kept_over (kept_over K0.out HSv.out.kept (fun q hq => by have := HN.out; omega)) HS3.out.kept (fun q hq => by have := HN.out; omega))
          clear hr g0 g1 g2 nG nV h2
          go_wp2_with fail
          have cs := cells_set3 (v0 := .float .f32 (r 0)) (v1 := .float .f32 (r 1)) (v2 := .float .f32 (r 2)) r0 r1 r2
          refine bodyPost_ret (ar3_ret Try.results73 _ _ R _ _ _ cs.1 cs.2.1 cs.2.2 rfl) rfl ?_
          refine ⟨r, rfl, fun c hc => ?_, kept_set3 KE.out (by have := HN.out; omega)⟩
          rw [HRR.out c hc, if_pos hc]
end Go.Proofs.Ytkmganophcklgaa
