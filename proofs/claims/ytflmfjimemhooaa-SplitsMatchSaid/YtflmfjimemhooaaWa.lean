/- Contracts of slices.Index and Contains over ints, and of what checks works. Conditions: none. -/
import Derived.Test.YtflmfjimemhooaaRg
import Derived.Test.YtflmfjimemhooaaRo
import Derived.Lib.Hide
namespace Go.Proofs.Ytflmfjimemhooaa
open Go.RowKit
open Fl
open BigFrame

def ctB (z : Nat → Int) (n : Nat) (x : Int) : Bool := (List.range n).any fun j => z j == x
theorem ctB_yes {z : Nat → Int} {n : Nat} {x : Int} {k : Nat} (hk : k < n) (h : z k = x) : ctB z n x = true := by
  unfold ctB
  rw [List.any_eq_true]
  exact ⟨k, List.mem_range.2 hk, by simp [h]⟩
theorem ctB_no {z : Nat → Int} {n : Nat} {x : Int} (h : ∀ j, j < n → z j ≠ x) : ctB z n x = false := by
  unfold ctB
  rw [List.any_eq_false]
  intro j hj
  simpa using h j (List.mem_range.1 hj)
def IxP (c : Bool) (w : World) (e : Ending) (w' : World) : Prop := ∃ r : Int, e = .returned (.int .i64 r) ∧ decide (0 ≤ r) = c ∧ w = w'

set_option linter.unusedSimpArgs false in
set_option linter.unusedVariables false in
set_option maxHeartbeats 2000000 in
set_option maxRecDepth 100000 in
theorem index_int (A : Option Addr) (n cap : Nat) (z : Nat → Int) (x : Int) (w : World) (hn : n ≤ 9223372036854775807) (hr : Rd w A n (fun i => .int .i64 (z i))) :
    Calls Try.prog 68 #[.slice A n cap, .int .i64 x] w (IxP (ctB z n x) w) := by
  have HR := Lib.hid hr
  clear hr
  go_enter Try.func68, Try.ntmps68
  go_wp2_with fail
  go_loop [8] (fun s8 => ∃ k : Nat, k ≤ n ∧ s8 = .int .i64 (k : Int) ∧ Hid (∀ j, j < k → z j ≠ x)) (fun s8 => (n - intOf s8).toNat)
  case atStart => exact ⟨0, Nat.zero_le _, rfl, Lib.hid (fun j hj => absurd hj (by omega))⟩
  case round =>
    obtain ⟨k, hk, rfl, HK⟩ := hrel
    by_cases hlt : k < n
    · have d1 : decide ((k : Int) < (n : Int)) = true := decide_eq_true (by omega)
      obtain ⟨b, o, rfl, hc⟩ := HR.out (by omega)
      have e0 := hc k hlt
      clear hc
      by_cases hx : z k = x
      · have d2 : (x == z k) = true := by simp [hx]
        have HX := Lib.hid (ctB_yes hlt hx)
        clear hx
        go_wp2_with fail
        go_ret
        exact ⟨_, rfl, by rw [HX.out]; simp, rfl⟩
      · have d2 : (x == z k) = false := by simp; exact fun h => hx h.symm
        have HX := Lib.hid hx
        clear hx
        go_wp2_with fail
        go_round
        case rel => exact ⟨k + 1, by omega, by go_num, Lib.hid (fun j hj => by
          by_cases e : j = k
          · subst e; exact HX.out
          · exact HK.out j (by omega))⟩
        case measure => simp [intOf]; omega
    · obtain rfl : k = n := by omega
      have d1 : decide ((k : Int) < (k : Int)) = false := by simp
      have HX := Lib.hid (ctB_no HK.out)
      go_wp2_with fail
      go_ret
      exact ⟨_, rfl, by rw [HX.out]; decide, rfl⟩

set_option linter.unusedSimpArgs false in
set_option linter.unusedVariables false in
set_option maxHeartbeats 2000000 in
set_option maxRecDepth 100000 in
theorem contains_int (A : Option Addr) (n cap : Nat) (z : Nat → Int) (x : Int) (c : Bool) (w : World) (hn : n ≤ 9223372036854775807) (hr : Rd w A n (fun i => .int .i64 (z i))) (hc : ctB z n x = c) :
    Calls Try.prog 42 #[.slice A n cap, .int .i64 x] w fun e w' => e = .returned (.bool c) ∧ w = w' := by
  have HR := Lib.hid hr
  have HC := Lib.hid hc
  clear hr hc
  go_enter Try.func42, Try.ntmps42
  go_wp2_with (go_at_call 68; refine (index_int A n cap z x w hn HR.out).mono ?_; rw [HC.out]; rintro e w' ⟨r, rfl, hd, rfl⟩)
  go_ret
  exact ⟨rfl, rfl⟩
end Go.Proofs.Ytflmfjimemhooaa
