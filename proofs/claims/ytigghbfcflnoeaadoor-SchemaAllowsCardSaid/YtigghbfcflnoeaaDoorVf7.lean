/- A part of the proof of the claim's statement: plain laws and walks (some printed by a program over the kit's printer). It has no conditions of its own. -/
import Derived.Test.YtigghbfcflnoeaaDoorVf5
import Derived.Shelf.Abstract
import Derived.Shelf.RegionOpen
section
namespace Go.Proofs.YtigghbfcflnoeaaDoor.Y
open Go.RowKit Go.Proofs.YtigghbfcflnoeaaDoorW.PrintWords Go.Proofs.YtigghbfcflnoeaaDoorW.PrintLast Go.Proofs.YtigghbfcflnoeaaDoorW.PrintMore
attribute [local go_sem] max2_int min2_int max_two min_two max_three min_three max_four min_four
set_option linter.unusedVariables false
set_option linter.unusedSimpArgs false
abbrev exV (x : S24) (A : Option Addr) (c : Nat) : Value := .agg #[.int .i64 x.f0, .string x.f1, .string x.f2, .slice A x.f3.length c]
def IdxPost (I X : Nat → World → Prop) (n : Nat) (e : Ending) (w' : World) : Prop :=
  (e = .returned (.int .i64 (-1)) ∧ I n w') ∨ ∃ i : Nat, i < n ∧ e = .returned (.int .i64 i) ∧ X i w'
def CallPost (I : World → Prop) (X : World → Prop) (e : Ending) (w' : World) : Prop :=
  (e = .returned (.bool false) ∧ I w') ∨ (e = .returned (.bool true) ∧ X w')
set_option maxHeartbeats 4000000 in
set_option maxRecDepth 100000 in
theorem IndexFunc_inv (g : Nat) (lb : Array Value) (A0 : Option Addr) (c0 : Nat) (l0 : List S24) (w0 w : World) (I X : Nat → World → Prop) (hC : Kd.C k24 w0 A0 l0.length l0)
    (hI : ∀ i W, I i W → Below w0.heap.size w0 W) (eg : ∀ args w, (callFunc g args).run Tryd.prog w = .ok (.enter g args) w)
    (hf : ∀ i (h : i < l0.length) W A c, I i W → l0[i].f3.length ≤ c → Kd.C k24 w0 A l0[i].f3.length l0[i].f3 →
      Calls Tryd.prog g (#[exV l0[i] A c] ++ lb) W (CallPost (I (i + 1)) (X i)))
    (h0 : I 0 w) :
    Calls Tryd.prog 93 #[.slice A0 l0.length c0, .func (.func g) #[] lb] w (IdxPost I X l0.length) := by
  have hmax : l0.length ≤ 9223372036854775807 := hC.2.1
  have HC := Aside0.mk hC
  have HI := Aside0.mk hI
  have HF := Aside0.mk hf
  have H0 := Aside0.mk h0
  clear hI hf h0 hC
  go_enter Tryd.func93, Tryd.ntmps93
  go_wp2_with fail
  go_loopw [8] (fun v8 wr => ∃ k : Nat, v8 = .int .i64 k ∧ k ≤ l0.length ∧ Aside0 (I k wr)) (fun v8 _ => l0.length - (intOf v8).toNat)
  case atStart => exact ⟨0, rfl, Nat.zero_le _, H0⟩
  case round =>
    obtain ⟨k, rfl, hk, hA⟩ := hrel
    by_cases hlt : k < l0.length
    · obtain ⟨ad, A3, c3, e3, x0, x1, x2, x3, hl3, hi3⟩ := at_T24 HC.out (k : Int) (by omega) (by omega)
      have er : rd_T24 l0 (k : Int) = l0[k] := by simp [rd_T24, List.getD_eq_getElem?_getD, List.getElem?_eq_getElem hlt]
      rw [er] at x0 x1 x2 x3 hl3 hi3
      simp only [Int.toNat_natCast] at x0 x1 x2 x3
      have hbl := HI.out k _ hA.out
      replace x0 := (hbl.cell (World.block_lt_of_cell? w0 _ x0)).trans x0
      replace x1 := (hbl.cell (World.block_lt_of_cell? w0 _ x1)).trans x1
      replace x2 := (hbl.cell (World.block_lt_of_cell? w0 _ x2)).trans x2
      replace x3 := (hbl.cell (World.block_lt_of_cell? w0 _ x3)).trans x3
      clear hbl
      have hcall := HF.out k hlt _ A3 c3 hA.out hl3 hi3
      clear er hl3 hi3
      cases e3
      generalize l0[k] = x at x0 x1 x2 x3 hcall
      go_wp2_with fail
      refine hcall.mono ?_
      clear hcall x0 x1 x2 x3
      rintro e w' (⟨rfl, hI'⟩ | ⟨rfl, hX⟩)
      · have HI' := Aside0.mk hI'
        clear hI'
        go_wp2
        go_roundw
        case rel => exact ⟨k + 1, by go_num, by omega, HI'⟩
        case measure => simp [intOf]; omega
      · have HX := Aside0.mk hX
        clear hX
        go_wp2
        go_ret
        exact .inr ⟨k, hlt, rfl, HX.out⟩
    · have hke : k = l0.length := by omega
      have HA := Aside0.mk (hke ▸ hA.out)
      clear hA hke
      go_wp2
      go_ret
      exact .inl ⟨rfl, HA.out⟩
def HasPost (I : World → Prop) (X : Nat → World → Prop) (n : Nat) (e : Ending) (w' : World) : Prop :=
  (e = .returned (.bool false) ∧ I w') ∨ ∃ i : Nat, i < n ∧ e = .returned (.bool true) ∧ X i w'
set_option maxHeartbeats 4000000 in
set_option maxRecDepth 100000 in
theorem ContainsFunc_inv (g : Nat) (lb : Array Value) (A0 : Option Addr) (c0 : Nat) (l0 : List S24) (w0 w : World) (I X : Nat → World → Prop) (hC : Kd.C k24 w0 A0 l0.length l0)
    (hI : ∀ i W, I i W → Below w0.heap.size w0 W) (eg : ∀ args w, (callFunc g args).run Tryd.prog w = .ok (.enter g args) w)
    (hf : ∀ i (h : i < l0.length) W A c, I i W → l0[i].f3.length ≤ c → Kd.C k24 w0 A l0[i].f3.length l0[i].f3 →
      Calls Tryd.prog g (#[exV l0[i] A c] ++ lb) W (CallPost (I (i + 1)) (X i)))
    (h0 : I 0 w) :
    Calls Tryd.prog 58 #[.slice A0 l0.length c0, .func (.func g) #[] lb] w (HasPost (I l0.length) X l0.length) := by
  have hc := Aside0.mk (IndexFunc_inv g lb A0 c0 l0 w0 w I X hC hI eg hf h0)
  clear hI hf h0 eg hC
  go_enter Tryd.func58, Tryd.ntmps58
  go_wp2_with fail
  refine hc.out.mono ?_
  rintro e w' (⟨rfl, hI'⟩ | ⟨i, hi, rfl, hX⟩)
  · have HI' := Aside0.mk hI'
    clear hI'
    go_wp2
    go_ret
    exact .inl ⟨rfl, HI'.out⟩
  · have HX := Aside0.mk hX
    have hd : decide ((i : Int) ≥ 0) = true := by simp
    have hd2 : (0 : Int) ≤ (i : Int) := by omega
    clear hX
    go_wp2
    go_ret
    exact .inr ⟨i, hi, by simp, HX.out⟩
end Go.Proofs.YtigghbfcflnoeaaDoor.Y
end
