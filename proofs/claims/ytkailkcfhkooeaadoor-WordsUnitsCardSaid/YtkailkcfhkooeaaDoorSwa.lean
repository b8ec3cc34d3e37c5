/- The laws of words: what they come to is true. -/
import Derived.Test.YtkailkcfhkooeaaDoorSw
import Derived.Test.YtkailkcfhkooeaaDoorP5
namespace Go.Proofs.YtkailkcfhkooeaaDoor.S
open Go.RowKit Go.Proofs.YtkailkcfhkooeaaDoor.P Go.Proofs.YtkailkcfhkooeaaDoorW.PrintWords Go.Proofs.YtkailkcfhkooeaaDoorW.PrintLast Go.Proofs.YtkailkcfhkooeaaDoorW.PrintMore Go.Proofs.YtkailkcfhkooeaaDoor.M
set_option maxRecDepth 100000 in
theorem awake01 : Ev (fun k => bucketlinelaw01_awake.f k) true := Ev.of bucketlinelaw01_awake.mono (k := 200) (by decide +kernel)
theorem awake01' : Ev (fun k => (bucketlinelaw01_awake.f k).bind fun t => some t) true := Ev.bind awake01 (Ev.now _)
/-- A number of which one bit is struck has one bit less. -/
theorem cnt_clear (f : Nat) : ∀ (n m : Nat), n.testBit f = true → (∀ j, m.testBit j = if j = f then false else n.testBit j) → cnt n = cnt m + 1 := by
  induction f with
  | zero =>
    intro n m hn hm
    have h0 := hm 0
    simp only [if_true, Nat.testBit_zero] at h0 hn
    have e : n / 2 = m / 2 := Nat.eq_of_testBit_eq fun j => by
      have := hm (j + 1)
      rw [if_neg (by omega)] at this
      rw [← Nat.testBit_add_one, ← Nat.testBit_add_one, this]
    rw [cnt_step n, cnt_step m, e]
    have h1 : n % 2 = 1 := by simpa using hn
    have h2 : m % 2 = 0 := by have : ¬ m % 2 = 1 := by simpa using h0
                              omega
    omega
  | succ f ih =>
    intro n m hn hm
    have h0 := hm 0
    rw [if_neg (by omega)] at h0
    simp only [Nat.testBit_zero] at h0
    have := ih (n / 2) (m / 2) (by rw [← Nat.testBit_add_one]; exact hn) fun j => by
      have := hm (j + 1)
      rw [← Nat.testBit_add_one, ← Nat.testBit_add_one, this]
      by_cases h : j = f
      · rw [if_pos (by omega), if_pos h]
      · rw [if_neg (by omega), if_neg h]
    rw [cnt_step n, cnt_step m, this]
    have : n % 2 = m % 2 := by
      have := decide_eq_decide.1 h0
      omega
    omega
end Go.Proofs.YtkailkcfhkooeaaDoor.S
