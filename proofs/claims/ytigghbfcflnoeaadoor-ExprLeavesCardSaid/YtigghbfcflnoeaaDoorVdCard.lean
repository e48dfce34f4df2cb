/- The given statement on vestry's law ExprLeaves (its tied card): the law's function returns true at every input and leaves its arguments as they read. Conditions: as the given row says (loops, laid: the reserved words' variable as the program's text lays it). -/
import Derived.Test.YtigghbfcflnoeaaDoorVd14
import Derived.Test.YtigghbfcflnoeaaDoorVd20
import Derived.WalkKit
import Derived.ShutString
import Derived.ChangeOld
import Derived.Below
import Derived.SizedLaws
import Derived.SevenTiedAt
import Derived.Test.YtigghbfcflnoeaaDoorCards
import Derived.Test.YtigghbfcflnoeaaDoorTie
section
namespace Go.Proofs.YtigghbfcflnoeaaDoor.Y
open Go.RowKit Go.Proofs.YtigghbfcflnoeaaDoorW.PrintWords Go.Proofs.YtigghbfcflnoeaaDoorW.PrintLast Go.Proofs.YtigghbfcflnoeaaDoorW.PrintMore
attribute [local go_sem] max2_int min2_int max_two min_two max_three min_three max_four min_four
set_option linter.unusedVariables false
set_option linter.unusedSimpArgs false
open Go.ChangeShapes Go.WideShapes Go.ChangeAt
set_option maxRecDepth 100000 in
theorem exprLeaves_lifted (os : Os) (started : os.Started) (H : Type) (enc : TypeId × Value → H) :
    ReturnsInHanded {} Tryd.checked os 6 .any (fun w args => (Rows.exprLeavesSpec.pre enc Tryd.prog Tryd.f6 [] false w args ∧ laidMetH Tryd.prog Rows.exprLeavesRow.laid w) ∧ sizedMet enc Tryd.prog Tryd.f6 (OpenSpec.ofChange Rows.exprLeavesSpec) false w args)
      (Rows.exprLeavesSpec.post enc Tryd.prog Tryd.f6 false true false false) := by
  refine returnsInHanded_of_change_and (C := Tryd.checked) (X := fun w _ => laidMetH Tryd.prog Rows.exprLeavesRow.laid w) (fun _ _ _ hh h => h.of_heap hh) row_own started (by kernel_rfl) Tryd.func6
    (ChangeSpec.witness_shaped (enc := enc) (C := Tryd.checked) (os := os) (X := fun w _ => laidMetH Tryd.prog Rows.exprLeavesRow.laid w) false (World.laidAll Tryd.prog os Rows.exprLeavesRow.laid) #[.agg #[.int .i64 0, .string ⟨#[]⟩, .string ⟨#[]⟩, .slice none 0 0], .int .u8 0] 8 (World.laidAll_os _ _ _)
      (World.shaped_of_ZipB (by kernel_rfl) (by kernel_rfl)) (by kernel_rfl) (by kernel_rfl) (by kernel_rfl)
      (by rw [MakeChecks.laidMetH_plain _ _ _ (by kernel_rfl)]; exact laidMet_laidAll _ (by kernel_rfl) (by kernel_rfl))) ?_
  intro W base args ds gs before hval0 hW hcnd hsz0 hL _
  have hsz : (DataW.weightsEach Tryd.prog (Tryd.f6.params.toList ++ Rows.exprLeavesSpec.plain.varTypes Tryd.prog) (ds ++ gs)).all (· ≤ reachBytes) = true := hsz0
  have hval : ∀ (j : Nat) t v, Tryd.f6.params[j]? = some t → args[j]? = some v → Value.okWide Tryd.prog W .any base t v := hval0
  have hW' := hW
  obtain ⟨p, q, hA0, hV, rfl, hfz, hnd⟩ := hW
  have hA : DataW.TrodAll enc Tryd.prog W 0 (fun _ => true) true Tryd.f6.params.toList args.toList ds p := hA0
  rw [Tryd.params6] at hA hval hsz
  obtain ⟨v0, vs0, d0, ds0, p0, q0, hargs, rfl, rfl, h0, r0⟩ := trodAll_cons hA
  obtain ⟨v1, vs1, d1, ds1, p1, q1, rfl, rfl, rfl, h1, r1⟩ := trodAll_cons r0
  obtain ⟨rfl, rfl, rfl⟩ := trodAll_nil r1
  obtain rfl : args = #[v0, v1] := by cases args; simp_all
  obtain ⟨rfl, rfl⟩ := trodVars_none hV
  have hw : ∀ n ∈ DataW.weights Tryd.prog 24 d0, n ≤ reachBytes := by
    intro n hn
    refine of_decide_eq_true (List.all_eq_true.mp hsz n ?_)
    show n ∈ DataW.weightsEach Tryd.prog (24 :: _) (d0 :: _)
    rw [DataW.weightsEach]
    exact List.mem_append_left _ hn
  have lt0 : ∀ x ∈ p0, x.block < W.heap.size := by obtain ⟨m, hm⟩ := h0; exact DataW.trod_lt m _ _ _ hm
  obtain ⟨y0, A0, c0, rfl, l0, C0, B0⟩ := arg_ex (hval 0 24 v0 rfl rfl) h0 hw
  obtain ⟨s, rfl, rfl, rfl, ws⟩ := open_int Tryd.underlying5 (hval 1 5 v1 rfl rfl) h1
  have hs : 0 ≤ s ∧ s ≤ 255 := by
    have := ws
    simp [Lit.wf] at this
    have e1 : IntKind.u8.min = 0 := rfl
    have e2 : IntKind.u8.max = 255 := rfl
    omega
  clear hA0 hval0 hsz0 hsz
  refine (law6_calls y0 B0 A0 c0 s hs.1 hs.2 W (laid_of hL) C0 l0).mono fun e W' ⟨he, bel⟩ => ?_
  subst he
  exact ⟨_, rfl, _, _, _, [], _, [], hW', trodAll_mk1 (shut_bool Tryd.underlying4 _), (trodAll_cons_mk (Below.trod row_laidOut rr24 (of_decide_eq_true (by kernel_rfl)) h0 bel lt0) (trodAll_cons_mk (shut_int Tryd.underlying5 ws) trodAll_mk0)), rfl, bel.frame _, fun h => by cases h⟩
theorem exprLeaves_holds : Rows.ExprLeavesSaid :=
  OpenClaim.holds_of_wide 6 Tryd.f6 rfl rfl rfl rfl rfl rfl rfl ⟨rfl, rfl, rfl, rfl, rfl⟩ rfl rfl rfl rfl rfl (by kernel_rfl) Tryd.func6 (by kernel_rfl)
    (of_decide_eq_true (by kernel_rfl)) (by unfold Func.isWrapper; first | (rw [if_pos (by decide +kernel)]; kernel_rfl) | (rw [if_neg (by decide +kernel)]; exact ⟨rfl, rfl⟩))
    (fun os started H enc _ => exprLeaves_lifted os started H enc)
theorem exprLeaves_card : Rows.ExprLeavesCardSaid :=
  Claim7.holds_tied_plain_at .later [] [.widerDeep] true (true, "73269c5990668e0b4c79949e972bca21a0f6a4d021e3a96f97fa812c585b1c92") true
    exprLeaves_holds (fun _ h => by cases h) (by kernel_rfl) (fun _ h => by cases h) exprLeaves_row_tie rfl ⟨rfl, rfl⟩ (by kernel_rfl) rfl
    (fun f fn hf hfn => by
      obtain rfl : f = 6 := Option.some.inj ((show Tryd.prog.funcNamed "vestry/vestrylaw10.ExprLeaves" = some 6 by kernel_rfl).symm.trans hf) |>.symm
      obtain rfl : fn = Tryd.f6 := (Option.some.inj (Tryd.func6.symm.trans hfn)).symm
      exact ⟨by kernel_rfl, fun j t ht => by
        rw [Tryd.params6] at ht
        have h3 : t = 24 ∨ t = 5 := by
          have := Array.mem_of_getElem? ht
          simpa using this
        rcases h3 with rfl | rfl
        · exact (show Tryd.prog.wantsStandIn 24 = false by kernel_rfl)
        · exact (show Tryd.prog.wantsStandIn 5 = false by kernel_rfl)⟩)
    (by kernel_rfl)
end Go.Proofs.YtigghbfcflnoeaaDoor.Y
end
