/- A part of the proof of the claim's statement: plain laws and walks (some printed by a program over the kit's printer). It has no conditions of its own. -/
import Derived.Test.YtigghbfcflnoeaaDoorVf5
import Derived.WalkLawsBesides
section
namespace Go.Proofs.YtigghbfcflnoeaaDoor.Y
open Go.RowKit Go.Proofs.YtigghbfcflnoeaaDoorW.PrintWords Go.Proofs.YtigghbfcflnoeaaDoorW.PrintLast Go.Proofs.YtigghbfcflnoeaaDoorW.PrintMore
attribute [local go_sem] max2_int min2_int max_two min_two max_three min_three max_four min_four
set_option linter.unusedVariables false
set_option linter.unusedSimpArgs false
def cmpS (a b : ByteArray) : Int := if Op.bytesLess a.toList b.toList = true then -1 else if a.toList = b.toList then 0 else 1
def cmp_Compare_string.f (a0 : ByteArray) (a1 : ByteArray) : Option (Int) := some (cmpS a0 a1)
set_option maxHeartbeats 1000000 in
theorem cmp_Compare_string.calls (a0 : ByteArray) (a1 : ByteArray) (r : Int) (w : World) (h : cmp_Compare_string.f a0 a1 = some r) :
    Calls Tryd.prog 52 #[.string a0, .string a1] w fun e w' => e = .returned (.int .i64 r) ∧ Drawn0 w w' := by
  have n0 : cmp_isNaN_string.f a0 = some false := by simp [cmp_isNaN_string.f]
  have n1 : cmp_isNaN_string.f a1 = some false := by simp [cmp_isNaN_string.f]
  have N0 := Aside0.mk n0
  have N1 := Aside0.mk n1
  clear n0 n1
  obtain rfl := Option.some.inj h
  have e1 : cmpS a0 a1 = if Op.bytesLess a0.toList a1.toList = true then -1 else if a0.toList = a1.toList then 0 else 1 := rfl
  by_cases c : Op.bytesLess a0.toList a1.toList = true
  · rw [if_pos c] at e1
    rw [e1]
    clear h e1
    go_enter Tryd.func52, Tryd.ntmps52
    go_wp2_with (first | (go_at_call 92; refine (cmp_isNaN_string.calls a0 false _ N0.out).mono ?_; rintro e w' ⟨rfl, ⟨nd, rfl⟩⟩; clear N0) | (go_at_call 92; refine (cmp_isNaN_string.calls a1 false _ N1.out).mono ?_; rintro e w' ⟨rfl, ⟨nd, rfl⟩⟩))
    go_ret
    exact ⟨rfl, by repeat (first | exact Drawn0.refl _ | apply Drawn0.step)⟩
  · rw [if_neg c] at e1
    have c' : Op.bytesLess a0.toList a1.toList = false := by simpa using c
    clear c
    by_cases c2 : a0.toList = a1.toList
    · rw [if_pos c2] at e1
      rw [e1]
      have c3 : (a0.toList == a1.toList) = true := by simpa using c2
      clear h e1 c2
      go_enter Tryd.func52, Tryd.ntmps52
      go_wp2_with (first | (go_at_call 92; refine (cmp_isNaN_string.calls a0 false _ N0.out).mono ?_; rintro e w' ⟨rfl, ⟨nd, rfl⟩⟩; clear N0) | (go_at_call 92; refine (cmp_isNaN_string.calls a1 false _ N1.out).mono ?_; rintro e w' ⟨rfl, ⟨nd, rfl⟩⟩))
      go_ret
      exact ⟨rfl, by repeat (first | exact Drawn0.refl _ | apply Drawn0.step)⟩
    · rw [if_neg c2] at e1
      rw [e1]
      have c3 : (a0.toList == a1.toList) = false := by simpa using c2
      clear h e1 c2
      go_enter Tryd.func52, Tryd.ntmps52
      go_wp2_with (first | (go_at_call 92; refine (cmp_isNaN_string.calls a0 false _ N0.out).mono ?_; rintro e w' ⟨rfl, ⟨nd, rfl⟩⟩; clear N0) | (go_at_call 92; refine (cmp_isNaN_string.calls a1 false _ N1.out).mono ?_; rintro e w' ⟨rfl, ⟨nd, rfl⟩⟩))
      go_ret
      exact ⟨rfl, by repeat (first | exact Drawn0.refl _ | apply Drawn0.step)⟩
end Go.Proofs.YtigghbfcflnoeaaDoor.Y
end
