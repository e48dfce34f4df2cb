/- A part of the proof of the claim's statement: plain laws and walks (some printed by a program over the kit's printer). It has no conditions of its own. -/
import Derived.Test.YtigghbfcflnoeaaDoorVf5
import Derived.Test.YtigghbfcflnoeaaDoorVf10
import Derived.Test.YtigghbfcflnoeaaDoorVf7
section
namespace Go.Proofs.YtigghbfcflnoeaaDoor.Y
open Go.RowKit Go.Proofs.YtigghbfcflnoeaaDoorW.PrintWords Go.Proofs.YtigghbfcflnoeaaDoorW.PrintLast Go.Proofs.YtigghbfcflnoeaaDoorW.PrintMore
attribute [local go_sem] max2_int min2_int max_two min_two max_three min_three max_four min_four
set_option linter.unusedVariables false
set_option linter.unusedSimpArgs false
def expr_form.f (a0_0 : Int) (a0_1 : ByteArray) (a0_2 : ByteArray) (l0_3 : List (S24)) : Option (Bool) := some (formB ⟨a0_0, a0_1, a0_2, l0_3⟩)
def FormAt (x : S24) : Prop := ∀ A c w, Laid w → Kd.C k24 w A x.f3.length x.f3 → x.f3.length ≤ c →
  Calls Tryd.prog 47 #[exV x A c] w fun e w' => e = .returned (.bool (formB x)) ∧ Below w.heap.size w w'
set_option maxHeartbeats 4000000 in
set_option maxRecDepth 100000 in
theorem form1_calls (x : S24) (H : FormAt x) (A : Option Addr) (c : Nat) (w : World) (hL : Laid w) (hC : Kd.C k24 w A x.f3.length x.f3) (hc : x.f3.length ≤ c) :
    Calls Tryd.prog 88 #[exV x A c] w fun e w' => e = .returned (.bool (!formB x)) ∧ Below w.heap.size w w' := by
  have HC := Aside0.mk (H A c (w.alloc (.cells #[.int .i64 x.f0, .string x.f1, .string x.f2, .slice A x.f3.length c] 24)) (hL.below (below_alloc (Below.refl _ _) _)) (Kd.C_alloc hC _) hc)
  clear H hL hC
  generalize formB x = r at HC
  obtain ⟨f0, f1, f2, f3⟩ := x
  go_enter Tryd.func88, Tryd.ntmps88
  go_wp2_with (go_at_call 47; refine HC.out.mono ?_; rintro e w' ⟨rfl, hb⟩)
  go_ret
  exact ⟨rfl, below_step (below_alloc (Below.refl _ _) _) hb⟩
set_option maxHeartbeats 8000000 in
set_option maxRecDepth 100000 in
theorem form_at : ∀ x : S24, FormAt x := by
  intro x
  induction x using S24.ind with
  | h x ih =>
  intro A c w hL hC hc
  have i0 : ∀ w, (Instr.index 126 (.agg #[.func (.func 86) #[] #[], .func (.func 87) #[] #[]]) (.int .i64 0)).run Tryd.prog w = .ok (.func (.func 86) #[] #[]) w := fun _ => by kernel_rfl
  have i1 : ∀ w, (Instr.index 126 (.agg #[.func (.func 86) #[] #[], .func (.func 87) #[] #[]]) (.int .i64 1)).run Tryd.prog w = .ok (.func (.func 87) #[] #[]) w := fun _ => by kernel_rfl
  obtain ⟨r, hr⟩ : ∃ r, formB x = r := ⟨_, rfl⟩
  rw [hr]
  have HR := Aside0.mk hr
  have HL := Aside0.mk hL
  have HC := Aside0.mk hC
  have Hc := Aside0.mk hc
  have IH := Aside0.mk ih
  clear hr
  clear hL hC hc ih
  go_enter Tryd.func47, Tryd.ntmps47
  go_wp2_with fail
  go_loopw [6] (fun v6 wr => ∃ k : Int, v6 = .int .i64 k ∧ (k = 0 ∨ k = 1 ∨ k = 2) ∧ Aside0 (wr.heap[w.heap.size]? = some (.cells #[.int .i64 x.f0, .string x.f1, .string x.f2, .slice A x.f3.length c] 24 (0, 0))) ∧ Aside0 (Below w.heap.size w wr) ∧ Aside0 (1 ≤ k → namesB x = true) ∧ Aside0 (2 ≤ k → kidsB x = true)) (fun v6 _ => 2 - (intOf v6).toNat)
  case atStart => exact ⟨0, rfl, .inl rfl, ⟨blk_new _ _⟩, ⟨below_alloc (Below.refl _ _) _⟩, ⟨fun h => absurd h (by omega)⟩, ⟨fun h => absurd h (by omega)⟩⟩
  case round =>
    obtain ⟨k, rfl, hk, BK, HB, HN, HK⟩ := hrel
    have z0 : wr.cell? ⟨w.heap.size, 0, none⟩ = some (.int .i64 x.f0) := (blk_cell BK.out 0).trans rfl
    have z1 : wr.cell? ⟨w.heap.size, 1, none⟩ = some (.string x.f1) := (blk_cell BK.out 1).trans rfl
    have z2 : wr.cell? ⟨w.heap.size, 2, none⟩ = some (.string x.f2) := (blk_cell BK.out 2).trans rfl
    have z3 : wr.cell? ⟨w.heap.size, 3, none⟩ = some (.slice A x.f3.length c) := (blk_cell BK.out 3).trans rfl
    have HLr := Aside0.mk (HL.out.below HB.out)
    have HCr := Aside0.mk (Kd.C_below HC.out HB.out)
    rcases hk with rfl | rfl | rfl
    · rcases (Bool.eq_false_or_eq_true (namesB x)).symm with hn | hn
      · have F := Aside0.mk ((names_f x.f0 x.f1 x.f2 x.f3).trans (congrArg some hn))
        obtain rfl : r = false := by rw [← HR.out, formB_eq, hn]; rfl
        clear hn
        go_wp2_with (go_at_call 86; refine (expr_part_names.calls x.f0 x.f1 x.f2 A c x.f3 false _ HLr.out HCr.out Hc.out F.out).mono ?_; rintro e w' ⟨rfl, hb⟩)
        go_ret
        exact ⟨rfl, below_step HB.out hb⟩
      · have F := Aside0.mk ((names_f x.f0 x.f1 x.f2 x.f3).trans (congrArg some hn))
        have HN := Aside0.mk hn
        clear hn
        go_wp2_with (go_at_call 86; refine (expr_part_names.calls x.f0 x.f1 x.f2 A c x.f3 true _ HLr.out HCr.out Hc.out F.out).mono ?_; rintro e w' ⟨rfl, hb⟩; have BK' := Aside0.mk (blk_below BK.out hb); have HB' := Aside0.mk (below_step HB.out hb); clear hb)
        go_roundw
        case rel => exact ⟨1, rfl, by omega, BK', HB', ⟨fun _ => HN.out⟩, ⟨fun h => absurd h (by omega)⟩⟩
        case measure => simp [intOf]
    · have HN1 := Aside0.mk (HN.out (Int.le_refl _))
      rcases (Bool.eq_false_or_eq_true (kidsB x)).symm with hn | hn
      · have F := Aside0.mk ((kids_f x.f0 x.f1 x.f2 x.f3).trans (congrArg some hn))
        obtain rfl : r = false := by rw [← HR.out, formB_eq, hn]; simp
        clear hn
        go_wp2_with (go_at_call 87; refine (expr_part_kids.calls 1 x.f0 x.f1 x.f2 A c x.f3 false _ HCr.out Hc.out F.out).mono ?_; rintro e w' ⟨rfl, hb⟩)
        go_ret
        exact ⟨rfl, below_step HB.out hb⟩
      · have F := Aside0.mk ((kids_f x.f0 x.f1 x.f2 x.f3).trans (congrArg some hn))
        have HK := Aside0.mk hn
        clear hn
        go_wp2_with (go_at_call 87; refine (expr_part_kids.calls 1 x.f0 x.f1 x.f2 A c x.f3 true _ HCr.out Hc.out F.out).mono ?_; rintro e w' ⟨rfl, hb⟩; have BK' := Aside0.mk (blk_below BK.out hb); have HB' := Aside0.mk (below_step HB.out hb); clear hb)
        go_roundw
        case rel => exact ⟨2, rfl, by omega, BK', HB', ⟨fun _ => HN1.out⟩, ⟨fun _ => HK.out⟩⟩
        case measure => simp [intOf]
    · have HN1 := Aside0.mk (HN.out (by omega))
      have HK1 := Aside0.mk (HK.out (Int.le_refl _))
      have HE := Aside0.mk (show x.f3.all formB = r by rw [← HR.out, formB_eq, HN1.out, HK1.out]; simp)
      have HF := Aside0.mk (ContainsFunc_inv 88 #[] A c x.f3 w wr (fun i W => Below w.heap.size w W ∧ ∀ j (h : j < x.f3.length), j < i → formB x.f3[j] = true) (fun i W => Below w.heap.size w W ∧ ∃ h : i < x.f3.length, formB x.f3[i] = false)
        HC.out (fun i W hI => hI.1) (enters_of Tryd.func88 (by kernel_rfl) rfl)
        (fun i h W A' c' hI hc' hC' => (form1_calls x.f3[i] (IH.out _ (List.getElem_mem h)) A' c' W (HL.out.below hI.1) (Kd.C_below hC' hI.1) hc').mono (by
          rintro e W' ⟨rfl, hb⟩
          have hb2 := below_step hI.1 hb
          cases hq : formB x.f3[i] with
          | true => exact .inl ⟨rfl, hb2, fun j hj hji => by
              rcases Nat.lt_succ_iff_lt_or_eq.1 hji with h1 | h1
              · exact hI.2 j hj h1
              · subst h1; exact hq⟩
          | false => exact .inr ⟨rfl, hb2, h, hq⟩))
        ⟨HB.out, fun j _ hj => absurd hj (Nat.not_lt_zero _)⟩)
      go_wp2_with (go_at_call 58; refine HF.out.mono ?_; clear HF; rintro e w' (⟨rfl, hb, hall⟩ | ⟨i, hi, rfl, hb, _, hbad⟩))
      · obtain rfl : r = true := by
          rw [← HE.out, List.all_eq_true]
          intro y hy
          obtain ⟨j, hj, rfl⟩ := List.getElem_of_mem hy
          exact hall j hj hj
        go_ret
        exact ⟨rfl, hb⟩
      · obtain rfl : r = false := by
          rw [← HE.out, List.all_eq_false]
          exact ⟨_, List.getElem_mem hi, by rw [hbad]; simp⟩
        go_ret
        exact ⟨rfl, hb⟩
theorem expr_form.calls (a0_0 : Int) (a0_1 : ByteArray) (a0_2 : ByteArray) (A0_3 : Option Addr) (c0_3 : Nat) (l0_3 : List (S24)) (r : Bool) (w : World) (hL : Laid w) (hr0_3 : Kd.C k24 w A0_3 l0_3.length l0_3) (hc0_3 : l0_3.length ≤ c0_3) (h : expr_form.f a0_0 a0_1 a0_2 l0_3 = some r) :
    Calls Tryd.prog 47 #[.agg #[.int .i64 a0_0, .string a0_1, .string a0_2, .slice A0_3 l0_3.length c0_3]] w fun e w' => e = .returned (.bool r) ∧ Below w.heap.size w w' := by
  obtain rfl := Option.some.inj h
  exact form_at ⟨a0_0, a0_1, a0_2, l0_3⟩ A0_3 c0_3 w hL hr0_3 hc0_3
end Go.Proofs.YtigghbfcflnoeaaDoor.Y
end
