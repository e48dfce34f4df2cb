/- A part of the proof of the claim's statement: plain laws and walks (some printed by a program over the kit's printer). It has no conditions of its own. -/
import Derived.Test.YtigghbfcflnoeaaDoorVf5
import Derived.Test.YtigghbfcflnoeaaDoorVf8
import Derived.Lib.Hide
section
namespace Go.Proofs.YtigghbfcflnoeaaDoor.Y
open Go.RowKit Go.Proofs.YtigghbfcflnoeaaDoorW.PrintWords Go.Proofs.YtigghbfcflnoeaaDoorW.PrintLast Go.Proofs.YtigghbfcflnoeaaDoorW.PrintMore
attribute [local go_sem] max2_int min2_int max_two min_two max_three min_three max_four min_four
set_option linter.unusedVariables false
set_option linter.unusedSimpArgs false
def hasL (s t : List UInt8) : Bool := t.all fun c => s.contains c
def name_set_has.f (a0 : ByteArray) (a1 : ByteArray) : Option (Bool) := if a1.size ≤ 9223372036854775807 then some (hasL a0.data.toList a1.data.toList) else none
theorem indexByte_neg (l : List UInt8) (c : UInt8) : decide (Lib.indexByte l c < 0) = !(l.contains c) := by
  induction l with
  | nil => simp [Lib.indexByte]
  | cons x l ih =>
    have h1 := Lib.indexByte_ge l c
    simp only [Lib.indexByte, List.contains_cons]
    by_cases e : x = c
    · subst e; simp
    · have e1 : (x == c) = false := by simpa using e
      have e2 : (c == x) = false := by simpa using (fun h => e h.symm)
      simp only [e1, e2, Bool.false_or, ← ih, Bool.false_eq_true, if_false]
      by_cases e3 : Lib.indexByte l c = -1
      · simp [e3]
      · have e4 : (Lib.indexByte l c == -1) = false := by simpa using e3
        simp only [e4, Bool.false_eq_true, if_false]
        congr 1
        simp only [eq_iff_iff]
        omega
set_option maxHeartbeats 2000000 in
set_option maxRecDepth 100000 in
theorem name_set_has.calls (a0 : ByteArray) (a1 : ByteArray) (r : Bool) (w : World) (h : name_set_has.f a0 a1 = some r) :
    Calls Tryd.prog 134 #[.string a0, .string a1] w fun e w' => e = .returned (.bool r) ∧ Drawn0 w w' := by
  have hs : a1.size ≤ 9223372036854775807 ∧ r = hasL a0.data.toList a1.data.toList := by
    unfold name_set_has.f at h
    split at h
    · exact ⟨by assumption, by simpa using h.symm⟩
    · simp at h
  obtain ⟨hs, rfl⟩ := hs
  clear h
  obtain ⟨r, hr0⟩ : ∃ r, hasL a0.data.toList a1.data.toList = r := ⟨_, rfl⟩
  rw [hr0]
  have hr := Aside0.mk hr0
  clear hr0
  go_enter Tryd.func134, Tryd.ntmps134
  go_wp2_with fail
  go_loop [8] (fun v8 => ∃ k : Nat, v8 = .int .i64 k ∧ k ≤ a1.size ∧ Aside0 (∀ j, j < k → ∀ h : j < a1.size, a0.data.toList.contains a1[j] = true)) (fun v8 => a1.size - (intOf v8).toNat)
  case atStart => exact ⟨0, rfl, Nat.zero_le _, ⟨fun j hj => absurd hj (Nat.not_lt_zero _)⟩⟩
  case round =>
    obtain ⟨k, rfl, hk, hA⟩ := hrel
    by_cases hlt : k < a1.size
    · have hn := indexByte_neg a0.data.toList a1[k]
      by_cases hc : a0.data.toList.contains a1[k] = true
      · have hd : decide (Lib.indexByte a0.data.toList a1[k] < 0) = false := by rw [hn, hc]; rfl
        clear hn
        have HC := Aside0.mk hc
        clear hc
        go_wp2_with (go_at_call 143; refine (Tryd.strings_IndexByte a0 _ _).mono ?_; rintro e w' ⟨rfl, rfl⟩)
        go_round
        case rel =>
          refine ⟨k + 1, by go_num, by omega, ⟨fun j hj hjs => ?_⟩⟩
          rcases Nat.lt_succ_iff_lt_or_eq.1 hj with h1 | h1
          · exact hA.out j h1 hjs
          · subst h1; exact HC.out
        case measure => simp [intOf]; omega
      · have hd : decide (Lib.indexByte a0.data.toList a1[k] < 0) = true := by rw [hn]; simp at hc; simp [hc]
        have hf : r = false := by
          rw [← hr.out]
          simp only [hasL, List.all_eq_false]
          exact ⟨a1[k], Array.mem_toList_iff.2 (Array.getElem_mem (by simpa using hlt)), hc⟩
        clear hn
        have HC := Aside0.mk hc
        clear hc
        subst hf
        go_wp2_with (go_at_call 143; refine (Tryd.strings_IndexByte a0 _ _).mono ?_; rintro e w' ⟨rfl, rfl⟩)
        go_ret
        exact ⟨rfl, Drawn0.refl _⟩
    · have hf : r = true := by
        rw [← hr.out]
        simp only [hasL, List.all_eq_true]
        intro x hx
        obtain ⟨j, hj, rfl⟩ := List.getElem_of_mem hx
        have hj' : j < a1.size := by simpa using hj
        show a0.data.toList.contains a1.data.toList[j] = true
        rw [Array.getElem_toList]
        exact hA.out j (by omega) hj'
      subst hf
      go_wp2
      go_ret
      exact ⟨rfl, Drawn0.refl _⟩
end Go.Proofs.YtigghbfcflnoeaaDoor.Y
end
