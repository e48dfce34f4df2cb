/- A part of the proof of the claim's statement: plain laws and walks (some printed by a program over the kit's printer). It has no conditions of its own. -/
import Derived.Test.YtigghbfcflnoeaaDoorVe13
import Derived.Test.YtigghbfcflnoeaaDoorVe14
import Derived.Test.YtigghbfcflnoeaaDoorVe18
import Derived.Test.YtigghbfcflnoeaaDoorVe5
import Derived.Test.YtigghbfcflnoeaaDoorVe11
import Derived.Test.YtigghbfcflnoeaaDoorVe19
import Derived.Test.YtigghbfcflnoeaaDoorVe17
section
namespace Go.Proofs.YtigghbfcflnoeaaDoor.Y
open Go.RowKit Go.Proofs.YtigghbfcflnoeaaDoorW.PrintWords Go.Proofs.YtigghbfcflnoeaaDoorW.PrintLast Go.Proofs.YtigghbfcflnoeaaDoorW.PrintMore
attribute [local go_sem] max2_int min2_int max_two min_two max_three min_three max_four min_four
set_option linter.unusedVariables false
set_option linter.unusedSimpArgs false
theorem pack_lo {w W w2 : World} {v : Value} {xs : List S24} {g : Nat} {o : Obj} (h : Kd.R k24 24 w2 W.heap.size (fun _ => True) v xs) (hb : Below W.heap.size W w2) (h1 : Below w.heap.size w W) (h2 : W.heap[g]? = some o) :
    ∃ lo, Aside0 (Kd.R k24 24 w2 lo (fun _ => True) v xs) ∧ Aside0 (lo ≤ w2.heap.size) ∧ Aside0 (w.heap.size ≤ lo) ∧ Aside0 (g < lo) :=
  ⟨_, ⟨h⟩, ⟨hb.size⟩, ⟨h1.size⟩, ⟨(Array.getElem?_eq_some_iff.1 h2).1⟩⟩
theorem V_andge {α : Type} {d : Kd α} {e : Nat} {W : World} {base : Nat} {ok A B C D : Nat → Prop} {v : Value} {xs : List α} (h : Kd.V d e W base ok v xs) (h2 : ∀ k, ok k → A k ∧ B k ∧ C k) (h3 : ∀ k, ok k → D k) : Kd.V d e W base (fun k => A k ∧ B k ∧ (C k ∧ D k)) v xs :=
  Kd.V_mono h (fun k hk => ⟨(h2 k hk).1, (h2 k hk).2.1, (h2 k hk).2.2, h3 k hk⟩)
def ZoneOf (lo : Nat) (W : World) (k : Nat) : Prop := lo ≤ k ∧ k < W.heap.size ∧ ∃ q cells, W.heap[k]? = some (.cells cells q (0, 0))
theorem zone_F {W wt : World} {lo : Nat} {A : Option Addr} {c : Nat} {xs : List S24} (h : Kd.R k24 24 W lo (fun _ => True) (.slice A xs.length c) xs) (hb : Below W.heap.size W wt) : Kd.F k24 wt (ZoneOf lo W) A xs.length xs :=
  Kd.F_below (Kd.F_mono (Kd.R_F (Kd.R_bound h)) (fun k hk => ⟨hk.2.1, hk.2.2.1, by obtain ⟨q, _, hc⟩ := hk.2.2.2; exact ⟨q, hc⟩⟩)) hb
theorem zone_UF {W wt cur : World} {lo : Nat} (hb : Below W.heap.size W wt) (hb2 : Below wt.heap.size wt cur) : UF (ZoneOf lo W) cur := by
  rintro k ⟨_, h2, q, cells, h3⟩
  have h4 : wt.heap[k]? = some (.cells cells q (0, 0)) := (hb.block k h2).trans h3
  have h5 : k < wt.heap.size := Nat.lt_of_lt_of_le h2 hb.size
  exact ⟨Nat.lt_of_lt_of_le h5 hb2.size, cells, q, (hb2.block k h5).trans h4⟩
theorem zone_lo {W : World} {lo : Nat} : ∀ k, ZoneOf lo W k → lo ≤ k := fun _ h => h.1
theorem zone_lt {W wt : World} {lo : Nat} (hb : Below W.heap.size W wt) : ∀ k, ZoneOf lo W k → k < wt.heap.size := fun _ h => Nat.lt_of_lt_of_le h.2.1 hb.size
theorem mod_blk {lo : Nat} {Z : Nat → Prop} {w w' : World} {g : Nat} {o : Obj} (h : Mod lo Z w w') (hz : ¬ Z g) (hb : w.heap[g]? = some o) : w'.heap[g]? = some o := (h.far g (Array.getElem?_eq_some_iff.1 hb).1 hz).trans hb
theorem mod_reads {lo : Nat} {Z : Nat → Prop} {w0 cur w' : World} {A : Option Addr} {n : Nat} {xs : List S24} (h : Mod lo Z cur w') (hlo : ∀ k, Z k → lo ≤ k) (hl0 : w0.heap.size ≤ lo) (hr : Kd.C k24 w0 A n xs) (hb : Below w0.heap.size w0 cur) : Kd.C k24 w' A n xs :=
  Kd.F_now (Kd.F_step (Kd.F_below (Kd.C_F k24_heap hr) hb) (fun k hk hlt => h.far k hlt (fun hz => by have := hlo k hz; have hk' : k < w0.heap.size := hk; omega)))
def vestrylaw10_ExprMaps.j0 : Nat → Bool → Int → ByteArray → ByteArray → List (S24) → Option (Bool)
  | 0, _, _, _, _, _ => none
  | k + 1, x13, x102000, x102001, x102002, x102003 => if x13 = true then ((vestrylaw10_awake.f k).bind fun t104 => (some t104)) else ((vestryref10_Clone.f k x102000 x102001 x102002 x102003).bind fun bt105 => ((map28.f k bt105.1 bt105.2.1 bt105.2.2.1 bt105.2.2.2).bind fun bt112 => ((expr_Clone.f k bt105.1 bt105.2.1 bt105.2.2.1 bt105.2.2.2).bind fun bt119 => ((vestrylaw10_marked.f k x102000 x102001 x102002 x102003).bind fun bt126 => ((vestryref10_Compare.f k bt112.1 bt112.2.1 bt112.2.2.1 bt112.2.2.2 bt126.1 bt126.2.1 bt126.2.2.1 bt126.2.2.2).bind fun t132 => (if t132 = 0 then ((vestryref10_Compare.f k bt105.1 bt105.2.1 bt105.2.2.1 bt105.2.2.2 x102000 x102001 x102002 x102003).bind fun t133 => (if t133 = 0 then ((vestryref10_Compare.f k bt119.1 bt119.2.1 bt119.2.2.1 bt119.2.2.2 x102000 x102001 x102002 x102003).bind fun t134 => (some (t134 == 0))) else (some false))) else (some false)))))))
def vestrylaw10_ExprMaps.f (k : Nat) (a0_0 : Int) (a0_1 : ByteArray) (a0_2 : ByteArray) (l0_3 : List (S24)) : Option (Bool) := (vestrylaw10_awake.f k).bind fun t102 => (if t102 = true then ((vestryref10_Few.f k a0_0 a0_1 a0_2 l0_3).bind fun t103 => (vestrylaw10_ExprMaps.j0 k (!t103) a0_0 a0_1 a0_2 l0_3)) else (vestrylaw10_ExprMaps.j0 k true a0_0 a0_1 a0_2 l0_3))
theorem vestrylaw10_ExprMaps.mono_l : ∀ k, (∀ y0 y1 y2 y3 y4, LeO (vestrylaw10_ExprMaps.j0 k y0 y1 y2 y3 y4) (vestrylaw10_ExprMaps.j0 (k + 1) y0 y1 y2 y3 y4))
  | 0 => fun _ _ _ _ _ r h => by simp [vestrylaw10_ExprMaps.j0] at h
  | k + 1 => by
    have ih0 := vestrylaw10_ExprMaps.mono_l k
    · intro y0 y1 y2 y3 y4
      unfold vestrylaw10_ExprMaps.j0
      repeat' first
      | (with_reducible exact ih0 _ _ _ _ _)
      | (with_reducible exact expr_Clone.mono _ _ _ _ _)
      | (with_reducible exact map28.mono _ _ _ _ _)
      | (with_reducible exact vestrylaw10_awake.mono _)
      | (with_reducible exact vestrylaw10_marked.mono _ _ _ _ _)
      | (with_reducible exact vestryref10_Clone.mono _ _ _ _ _)
      | (with_reducible exact vestryref10_Compare.mono _ _ _ _ _ _ _ _ _)
      | (with_reducible exact vestryref10_Few.mono _ _ _ _ _)
      | (with_reducible exact LeO.refl _)
      | (with_reducible exact LeO.none _)
      | (with_reducible refine LeO.ite ?_ ?_)
      | (with_reducible refine LeO.bind ?_ (fun _ => ?_))
      | exact ih0 _ _ _ _ _
      | exact expr_Clone.mono _ _ _ _ _
      | exact map28.mono _ _ _ _ _
      | exact vestrylaw10_awake.mono _
      | exact vestrylaw10_marked.mono _ _ _ _ _
      | exact vestryref10_Clone.mono _ _ _ _ _
      | exact vestryref10_Compare.mono _ _ _ _ _ _ _ _ _
      | exact vestryref10_Few.mono _ _ _ _ _
      | exact LeO.none _
      | refine LeO.ite ?_ ?_
      | refine LeO.bind ?_ (fun _ => ?_)
theorem vestrylaw10_ExprMaps.mono : ∀ a0 a1 a2 a3 k, LeO (vestrylaw10_ExprMaps.f k a0 a1 a2 a3) (vestrylaw10_ExprMaps.f (k + 1) a0 a1 a2 a3) := by
  intro a0 a1 a2 a3 k
  have ih0 := vestrylaw10_ExprMaps.mono_l k
  unfold vestrylaw10_ExprMaps.f
  repeat' first
      | (with_reducible exact ih0 _ _ _ _ _)
      | (with_reducible exact expr_Clone.mono _ _ _ _ _)
      | (with_reducible exact map28.mono _ _ _ _ _)
      | (with_reducible exact vestrylaw10_awake.mono _)
      | (with_reducible exact vestrylaw10_marked.mono _ _ _ _ _)
      | (with_reducible exact vestryref10_Clone.mono _ _ _ _ _)
      | (with_reducible exact vestryref10_Compare.mono _ _ _ _ _ _ _ _ _)
      | (with_reducible exact vestryref10_Few.mono _ _ _ _ _)
      | (with_reducible exact LeO.refl _)
      | (with_reducible exact LeO.none _)
      | (with_reducible refine LeO.ite ?_ ?_)
      | (with_reducible refine LeO.bind ?_ (fun _ => ?_))
      | exact ih0 _ _ _ _ _
      | exact expr_Clone.mono _ _ _ _ _
      | exact map28.mono _ _ _ _ _
      | exact vestrylaw10_awake.mono _
      | exact vestrylaw10_marked.mono _ _ _ _ _
      | exact vestryref10_Clone.mono _ _ _ _ _
      | exact vestryref10_Compare.mono _ _ _ _ _ _ _ _ _
      | exact vestryref10_Few.mono _ _ _ _ _
      | exact LeO.none _
      | refine LeO.ite ?_ ?_
      | refine LeO.bind ?_ (fun _ => ?_)
def maps_tail.T6 : Bool × List (List Nat × List Nat) := (true, [([], []), ([], []), ([1], [1]), ([0, 2, 2], [0, 2]), ([3], [3]), ([4, 3], [4]), ([5], [5]), ([5], [5]), ([6, 7, 5, 5], [5, 6, 7]), ([8, 5], [5, 8]), ([5, 9], [5, 9]), ([10, 8, 0, 1, 2, 3, 4, 5, 6, 7, 8, 9, 10], [10])])
def maps_tail.B6 : List Nat := [0, 0, 2, 7, 15, 31, 63, 63, 255, 511, 1023, 2047]
theorem maps_tail.tab6 : rtab .any (opsOf Tryd.f7 6) = maps_tail.T6 := by kernel_rfl
theorem maps_tail.bits6 : waitsOk maps_tail.T6.2 maps_tail.B6 = true := by kernel_rfl
set_option maxHeartbeats 8000000 in
set_option maxRecDepth 100000 in
theorem vestrylaw10_ExprMaps.calls (k : Nat) (a0_0 : Int) (a0_1 : ByteArray) (a0_2 : ByteArray) (A0_3 : Option Addr) (c0_3 : Nat) (l0_3 : List (S24)) (w : World) (hL : Laid w) (hr0_3 : Kd.C k24 w A0_3 l0_3.length l0_3) (hc0_3 : l0_3.length ≤ c0_3) (h : vestrylaw10_ExprMaps.f k a0_0 a0_1 a0_2 l0_3 = some true) :
    Calls Tryd.prog 7 #[.agg #[.int .i64 a0_0, .string a0_1, .string a0_2, .slice A0_3 l0_3.length c0_3]] w fun e w' => e = .returned (.bool true) ∧ Below w.heap.size w w' := by
  have HL := Aside0.mk hL
  clear hL
  have hu24 := Tryd.underlying24
  have HR0_3 := Aside0.mk hr0_3
  have HC0_3 := Aside0.mk hc0_3
  clear hr0_3 hc0_3
  have HB := Aside0.mk (Below.refl w.heap.size w)
  have H : ((vestrylaw10_awake.f k).bind fun t102 => (if t102 = true then ((vestryref10_Few.f k a0_0 a0_1 a0_2 l0_3).bind fun t103 => (vestrylaw10_ExprMaps.j0 k (!t103) a0_0 a0_1 a0_2 l0_3)) else (vestrylaw10_ExprMaps.j0 k true a0_0 a0_1 a0_2 l0_3))) = some true := h
  clear h
  have HC2 := Aside0.mk H
  clear H
  go_enter Tryd.func7, Tryd.ntmps7
  go_upto_region 1 with (first | ((with_reducible refine gate_dst (N := 1) rfl ?_); refine box_event ?hg (N := 1) ?hd (cs := #[.int .i64 a0_0, .string a0_1, .string a0_2, .slice A0_3 l0_3.length c0_3]) (t := 24) ?hr ?_; (case hd => rfl); (case hg => rfl); (case hr => first | (go_simp; done) | (go_simp; rfl)); intro gb101 hg w3 hbox hb; have n0_ := Aside0.mk (below_step (by repeat (first | (with_reducible first | exact HB.out | apply below_alloc | apply pw_below_drewN | apply below_drew1) | exact HB.out)) hb); have n1_ := Aside0.mk (hbox); have n2_ := Aside0.mk ((by rw [hg]; exact (below_size (by repeat (first | (with_reducible first | exact HB.out | apply below_alloc | apply pw_below_drewN | apply below_drew1) | exact HB.out))) : w.heap.size ≤ gb101)); have n3_ := Aside0.mk ((by rw [hg]; exact (below_size (by repeat (first | (with_reducible first | exact HB.out | apply below_alloc | apply pw_below_drewN | apply below_drew1) | exact HB.out))) : w.heap.size ≤ gb101)); clear HB; have HB := n0_; have BK101 := n1_; have GW101 := n2_; have GE101 := n3_; clear n0_ n1_ n2_ n3_; clear hb hbox hg))
  (try simp only [Act.put, List.setIfInBounds_toArray, List.set_cons_zero, List.set_cons_succ])
  go_cut [13] (fun v13 wc => ∃ (kq : Nat) (x13_1 : Bool), v13 = .bool x13_1 ∧ Aside0 (vestrylaw10_ExprMaps.j0 kq x13_1 a0_0 a0_1 a0_2 l0_3 = some true) ∧ Aside0 (kq ≤ k) ∧ Aside0 (wc.heap[gb101]? = some (.cells #[.int .i64 a0_0, .string a0_1, .string a0_2, (.slice A0_3 l0_3.length c0_3)] 24 (0, 0))) ∧ Aside0 (Below w.heap.size w wc))
  case first =>
    have H := HC2.out
    clear HC2
    replace H := Option.bind_eq_some_iff.mp H
    obtain ⟨t102, A40, H⟩ := H
    replace H : (if t102 = true then ((vestryref10_Few.f k a0_0 a0_1 a0_2 l0_3).bind fun t103 => (vestrylaw10_ExprMaps.j0 k (!t103) a0_0 a0_1 a0_2 l0_3)) else (vestrylaw10_ExprMaps.j0 k true a0_0 a0_1 a0_2 l0_3)) = some true := H
    have A4 := Aside0.mk A40
    clear A40
    by_cases c5 : t102 = true
    · subst c5
      have H1 : ((vestryref10_Few.f k a0_0 a0_1 a0_2 l0_3).bind fun t103 => (vestrylaw10_ExprMaps.j0 k (!t103) a0_0 a0_1 a0_2 l0_3)) = some true := by rw [if_pos rfl] at H; exact H
      clear H
      have H := H1
      clear H1
      replace H := Option.bind_eq_some_iff.mp H
      obtain ⟨t103, A60, H⟩ := H
      replace H : (vestrylaw10_ExprMaps.j0 k (!t103) a0_0 a0_1 a0_2 l0_3) = some true := H
      have A6 := Aside0.mk A60
      clear A60
      have H' := Aside0.mk H
      clear H
      go_wp2_with (first | ((with_reducible refine gate_callee (f := 13) rfl ?_); refine goesL_ (some 7) rfl rfl Tryd.func13 (by kernel_rfl) rfl #[] rfl (by (try simp only [List.map_toArray, List.map_cons, List.map_nil]); first | done | rfl | (simp only [List.length_drop, List.length_take]; rfl)) ?_; (with_reducible refine (vestrylaw10_awake.calls k  true _ ?sideL A4.out).mono ?_); (case sideL => exact HL.out.below (by repeat (first | (with_reducible first | exact HB.out | exact Below.refl _ _ | apply below_alloc | apply pw_below_drewN | apply below_drew1 | refine below_set ?_ GE101.out | refine below_set ?_ GE111.out | refine below_set ?_ GE118.out | refine below_set ?_ GE125.out) | exact HB.out))); rintro e w7 ⟨rfl, hb⟩; refine ⟨_, rfl, ?_⟩; have n0_ := Aside0.mk (blk_below (g := gb101) (o := .cells #[.int .i64 a0_0, .string a0_1, .string a0_2, .slice A0_3 l0_3.length c0_3] 24 (0, 0)) (by (with_reducible repeat (first | refine blk_drewN ?_ _ | refine blk_drew ?_ | refine blk_alloc ?_ _)); exact BK101.out) hb); have n1_ := Aside0.mk (below_step (by repeat (first | (with_reducible first | exact HB.out | apply below_alloc | apply pw_below_drewN | apply below_drew1 | refine below_set ?_ GE101.out) | exact HB.out)) hb); clear BK101; clear HB; have BK101 := n0_; have HB := n1_; clear n0_ n1_; (try clear hb); (try clear hb2); (try clear hk); (try clear hi); have hcz8_0 : w7.cell? ⟨gb101, 0, none⟩ = some (.int .i64 a0_0) := (blk_cell BK101.out 0).trans rfl; have hcz8_1 : w7.cell? ⟨gb101, 1, none⟩ = some (.string a0_1) := (blk_cell BK101.out 1).trans rfl; have hcz8_2 : w7.cell? ⟨gb101, 2, none⟩ = some (.string a0_2) := (blk_cell BK101.out 2).trans rfl; have hcz8_3 : w7.cell? ⟨gb101, 3, none⟩ = some (.slice A0_3 l0_3.length c0_3) := (blk_cell BK101.out 3).trans rfl; have hfz8_0 := blk_frozen BK101.out 0; have hfz8_1 := blk_frozen BK101.out 1; have hfz8_2 := blk_frozen BK101.out 2; have hfz8_3 := blk_frozen BK101.out 3) | (go_at_call 14; (with_reducible refine (vestryref10_Few.calls k a0_0 a0_1 a0_2 _ _ l0_3 t103 _ ?side1 ?side2 A6.out).mono ?_); (case side1 => repeat (first | exact (Kd.C_below HR0_3.out HB.out) | (with_reducible refine Kd.C_alloc ?_ _) | (with_reducible refine Kd.C_drewN ?_ _) | (with_reducible refine Kd.C_drew ?_))); (case side2 => exact HC0_3.out); rintro e w9 ⟨rfl, hb⟩; have n0_ := Aside0.mk (blk_below (g := gb101) (o := .cells #[.int .i64 a0_0, .string a0_1, .string a0_2, .slice A0_3 l0_3.length c0_3] 24 (0, 0)) (by (with_reducible repeat (first | refine blk_drewN ?_ _ | refine blk_drew ?_ | refine blk_alloc ?_ _)); exact BK101.out) hb); have n1_ := Aside0.mk (below_step (by repeat (first | (with_reducible first | exact HB.out | apply below_alloc | apply pw_below_drewN | apply below_drew1 | refine below_set ?_ GE101.out) | exact HB.out)) hb); clear BK101; clear HB; have BK101 := n0_; have HB := n1_; clear n0_ n1_; (try clear hb); (try clear hb2); (try clear hk); (try clear hi)))
      go_meet
      case rel => exact ⟨_, (!t103), (by first | rfl | (simp; done) | (simp [*]; done)), H', ⟨by first | omega | exact Nat.le_refl _⟩, ⟨by (with_reducible repeat (first | refine blk_drewN ?_ _ | refine blk_drew ?_ | refine blk_alloc ?_ _)); exact BK101.out⟩, ⟨by repeat (first | (with_reducible first | exact HB.out | apply below_alloc | apply pw_below_drewN | apply below_drew1 | refine below_set ?_ GE101.out) | exact HB.out)⟩⟩
    · replace c5 := Bool.eq_false_iff.mpr c5
      subst c5
      have H1 : (vestrylaw10_ExprMaps.j0 k true a0_0 a0_1 a0_2 l0_3) = some true := by rw [if_neg (show ¬ (false = true) by decide)] at H; exact H
      clear H
      have H := H1
      clear H1
      have H' := Aside0.mk H
      clear H
      go_wp2_with (first | ((with_reducible refine gate_callee (f := 13) rfl ?_); refine goesL_ (some 7) rfl rfl Tryd.func13 (by kernel_rfl) rfl #[] rfl (by (try simp only [List.map_toArray, List.map_cons, List.map_nil]); first | done | rfl | (simp only [List.length_drop, List.length_take]; rfl)) ?_; (with_reducible refine (vestrylaw10_awake.calls k  false _ ?sideL A4.out).mono ?_); (case sideL => exact HL.out.below (by repeat (first | (with_reducible first | exact HB.out | exact Below.refl _ _ | apply below_alloc | apply pw_below_drewN | apply below_drew1 | refine below_set ?_ GE101.out | refine below_set ?_ GE111.out | refine below_set ?_ GE118.out | refine below_set ?_ GE125.out) | exact HB.out))); rintro e w10 ⟨rfl, hb⟩; refine ⟨_, rfl, ?_⟩; have n0_ := Aside0.mk (blk_below (g := gb101) (o := .cells #[.int .i64 a0_0, .string a0_1, .string a0_2, .slice A0_3 l0_3.length c0_3] 24 (0, 0)) (by (with_reducible repeat (first | refine blk_drewN ?_ _ | refine blk_drew ?_ | refine blk_alloc ?_ _)); exact BK101.out) hb); have n1_ := Aside0.mk (below_step (by repeat (first | (with_reducible first | exact HB.out | apply below_alloc | apply pw_below_drewN | apply below_drew1 | refine below_set ?_ GE101.out) | exact HB.out)) hb); clear BK101; clear HB; have BK101 := n0_; have HB := n1_; clear n0_ n1_; (try clear hb); (try clear hb2); (try clear hk); (try clear hi)))
      go_meet
      case rel => exact ⟨_, (true), (by first | rfl | (simp; done) | (simp [*]; done)), H', ⟨by first | omega | exact Nat.le_refl _⟩, ⟨by (with_reducible repeat (first | refine blk_drewN ?_ _ | refine blk_drew ?_ | refine blk_alloc ?_ _)); exact BK101.out⟩, ⟨by repeat (first | (with_reducible first | exact HB.out | apply below_alloc | apply pw_below_drewN | apply below_drew1 | refine below_set ?_ GE101.out) | exact HB.out)⟩⟩
  case rest =>
    clear HC2
    try clear c1
    try clear p2
    try clear c5
    try clear c7
    try clear hcz8_0
    try clear hcz8_1
    try clear hcz8_2
    try clear hcz8_3
    try clear hfz8_0
    try clear hfz8_1
    try clear hfz8_2
    try clear hfz8_3
    obtain ⟨kq, x13_1, rfl, HA, HJ1, BK101, HB⟩ := hcut
    cases kq with
    | zero => exact absurd HA.out (by simp [vestrylaw10_ExprMaps.j0])
    | succ kj1 =>
      have H := HA.out
      clear HA
      simp only [vestrylaw10_ExprMaps.j0] at H
      by_cases c11 : x13_1 = true
      · subst c11
        have H1 : ((vestrylaw10_awake.f kj1).bind fun t104 => (some t104)) = some true := by rw [if_pos rfl] at H; exact H
        clear H
        have H := H1
        clear H1
        replace H := Option.bind_eq_some_iff.mp H
        obtain ⟨t104, A120, H⟩ := H
        replace H : (some t104) = some true := H
        have A12 := Aside0.mk A120
        clear A120
        have HT := Aside0.mk (Option.some.inj H)
        clear H
        go_wp2_with (first | ((with_reducible refine gate_callee (f := 13) rfl ?_); refine goesL_ (some 14) rfl rfl Tryd.func13 (by kernel_rfl) rfl #[] rfl (by (try simp only [List.map_toArray, List.map_cons, List.map_nil]); first | done | rfl | (simp only [List.length_drop, List.length_take]; rfl)) ?_; (with_reducible refine (vestrylaw10_awake.calls kj1  t104 _ ?sideL A12.out).mono ?_); (case sideL => exact HL.out.below (by repeat (first | (with_reducible first | exact HB.out | exact Below.refl _ _ | apply below_alloc | apply pw_below_drewN | apply below_drew1 | refine below_set ?_ GE101.out | refine below_set ?_ GE111.out | refine below_set ?_ GE118.out | refine below_set ?_ GE125.out) | exact HB.out))); rintro e w13 ⟨rfl, hb⟩; refine ⟨_, rfl, ?_⟩; have n0_ := Aside0.mk (blk_below (g := gb101) (o := .cells #[.int .i64 a0_0, .string a0_1, .string a0_2, .slice A0_3 l0_3.length c0_3] 24 (0, 0)) (by (with_reducible repeat (first | refine blk_drewN ?_ _ | refine blk_drew ?_ | refine blk_alloc ?_ _)); exact BK101.out) hb); have n1_ := Aside0.mk (below_step (by repeat (first | (with_reducible first | exact HB.out | apply below_alloc | apply pw_below_drewN | apply below_drew1 | refine below_set ?_ GE101.out) | exact HB.out)) hb); clear BK101; clear HB; have BK101 := n0_; have HB := n1_; clear n0_ n1_; (try clear hb); (try clear hb2); (try clear hk); (try clear hi)))
        go_ret
        exact ⟨(show Ending.returned (.bool t104) = .returned (.bool true) by rw [HT.out]), by repeat (first | (with_reducible first | exact HB.out | apply below_alloc | apply pw_below_drewN | apply below_drew1 | refine below_set ?_ GE101.out) | exact HB.out)⟩
      · replace c11 := Bool.eq_false_iff.mpr c11
        subst c11
        have H1 : ((vestryref10_Clone.f kj1 a0_0 a0_1 a0_2 l0_3).bind fun ba1_0 => ((map28.f kj1 ba1_0.1 ba1_0.2.1 ba1_0.2.2.1 ba1_0.2.2.2).bind fun bt112 => ((expr_Clone.f kj1 ba1_0.1 ba1_0.2.1 ba1_0.2.2.1 ba1_0.2.2.2).bind fun bt119 => ((vestrylaw10_marked.f kj1 a0_0 a0_1 a0_2 l0_3).bind fun bt126 => ((vestryref10_Compare.f kj1 bt112.1 bt112.2.1 bt112.2.2.1 bt112.2.2.2 bt126.1 bt126.2.1 bt126.2.2.1 bt126.2.2.2).bind fun t132 => (if t132 = 0 then ((vestryref10_Compare.f kj1 ba1_0.1 ba1_0.2.1 ba1_0.2.2.1 ba1_0.2.2.2 a0_0 a0_1 a0_2 l0_3).bind fun t133 => (if t133 = 0 then ((vestryref10_Compare.f kj1 bt119.1 bt119.2.1 bt119.2.2.1 bt119.2.2.2 a0_0 a0_1 a0_2 l0_3).bind fun t134 => (some (t134 == 0))) else (some false))) else (some false))))))) = some true := by rw [if_neg (show ¬ (false = true) by decide)] at H; exact H
        clear H
        have H := H1
        clear H1
        replace H := Option.bind_eq_some_iff.mp H
        obtain ⟨⟨a1_0, a1_1, a1_2, l1_3⟩, A140, H⟩ := H
        replace H : ((map28.f kj1 a1_0 a1_1 a1_2 l1_3).bind fun bt112 => ((expr_Clone.f kj1 a1_0 a1_1 a1_2 l1_3).bind fun bt119 => ((vestrylaw10_marked.f kj1 a0_0 a0_1 a0_2 l0_3).bind fun bt126 => ((vestryref10_Compare.f kj1 bt112.1 bt112.2.1 bt112.2.2.1 bt112.2.2.2 bt126.1 bt126.2.1 bt126.2.2.1 bt126.2.2.2).bind fun t132 => (if t132 = 0 then ((vestryref10_Compare.f kj1 a1_0 a1_1 a1_2 l1_3 a0_0 a0_1 a0_2 l0_3).bind fun t133 => (if t133 = 0 then ((vestryref10_Compare.f kj1 bt119.1 bt119.2.1 bt119.2.2.1 bt119.2.2.2 a0_0 a0_1 a0_2 l0_3).bind fun t134 => (some (t134 == 0))) else (some false))) else (some false)))))) = some true := H
        have A14 := Aside0.mk A140
        clear A140
        have hcz23_0 : wc.cell? ⟨gb101, 0, none⟩ = some (.int .i64 a0_0) := (blk_cell BK101.out 0).trans rfl
        have hcz23_1 : wc.cell? ⟨gb101, 1, none⟩ = some (.string a0_1) := (blk_cell BK101.out 1).trans rfl
        have hcz23_2 : wc.cell? ⟨gb101, 2, none⟩ = some (.string a0_2) := (blk_cell BK101.out 2).trans rfl
        have hcz23_3 : wc.cell? ⟨gb101, 3, none⟩ = some (.slice A0_3 l0_3.length c0_3) := (blk_cell BK101.out 3).trans rfl
        have hfz23_0 := blk_frozen BK101.out 0
        have hfz23_1 := blk_frozen BK101.out 1
        have hfz23_2 := blk_frozen BK101.out 2
        have hfz23_3 := blk_frozen BK101.out 3
        go_upto_region 4 with (first | ((with_reducible refine gate_callee (f := 26) rfl ?_); refine goesL_ (some 16) rfl rfl Tryd.func26 (by kernel_rfl) rfl #[.agg #[.int .i64 a0_0, .string a0_1, .string a0_2, .slice A0_3 l0_3.length c0_3]] rfl (by (try simp only [List.map_toArray, List.map_cons, List.map_nil]); first | done | rfl | (simp only [List.length_drop, List.length_take]; rfl)) ?_; (with_reducible refine (vestryref10_Clone.calls kj1 a0_0 a0_1 a0_2 _ _ l0_3 a1_0 a1_1 a1_2 l1_3 _ ?side1 ?side2 A14.out).mono ?_); (case side1 => repeat (first | exact (Kd.C_below HR0_3.out HB.out) | (with_reducible refine Kd.C_alloc ?_ _) | (with_reducible refine Kd.C_drewN ?_ _) | (with_reducible refine Kd.C_drew ?_))); (case side2 => exact HC0_3.out); rintro e w24 ⟨v109, rfl, ho0, hb⟩; refine ⟨_, rfl, ?_⟩; obtain ⟨lo, HRO, HLX, HLO, HE101⟩ := pack_lo (w := w) (g := gb101) (o := .cells #[.int .i64 a0_0, .string a0_1, .string a0_2, .slice A0_3 l0_3.length c0_3] 24 (0, 0)) ho0 hb (by repeat (first | (with_reducible first | exact HB.out | apply below_alloc | apply pw_below_drewN | apply below_drew1 | refine below_set ?_ GE101.out) | exact HB.out)) (by (with_reducible repeat (first | refine blk_drewN ?_ _ | refine blk_drew ?_ | refine blk_alloc ?_ _)); exact BK101.out); have HX := Aside0.mk (Below.refl w24.heap.size w24); have n0_ := Aside0.mk (Kd.R_lower (Kd.R_newB ho0 (g := gb101) (o := .cells #[.int .i64 a0_0, .string a0_1, .string a0_2, .slice A0_3 l0_3.length c0_3] 24 (0, 0)) (by (with_reducible repeat (first | refine blk_drewN ?_ _ | refine blk_drew ?_ | refine blk_alloc ?_ _)); exact BK101.out)) (below_size (by repeat (first | (with_reducible first | exact HB.out | apply below_alloc | apply pw_below_drewN | apply below_drew1 | refine below_set ?_ GE101.out) | exact HB.out)))); have n1_ := Aside0.mk (blk_below (g := gb101) (o := .cells #[.int .i64 a0_0, .string a0_1, .string a0_2, .slice A0_3 l0_3.length c0_3] 24 (0, 0)) (by (with_reducible repeat (first | refine blk_drewN ?_ _ | refine blk_drew ?_ | refine blk_alloc ?_ _)); exact BK101.out) hb); have n2_ := Aside0.mk (below_step (by repeat (first | (with_reducible first | exact HB.out | apply below_alloc | apply pw_below_drewN | apply below_drew1 | refine below_set ?_ GE101.out) | exact HB.out)) hb); clear BK101; clear HB; have HO110 := n0_; have BK101 := n1_; have HB := n2_; clear n0_ n1_ n2_; (try clear hb); (try clear hb2); (try clear hk); (try clear hi); (try clear ho0)) | ((with_reducible refine gate_dst (N := 3) rfl ?_); refine box_event ?hg (N := 3) ?hd (cs := #[.int .i64 0, .string (⟨#[]⟩ : ByteArray), .string (⟨#[]⟩ : ByteArray), .slice none 0 0]) (t := 24) ?hr ?_; (case hd => rfl); (case hg => rfl); (case hr => first | (go_simp; done) | (go_simp; rfl)); intro gb111 hg w25 hbox hb; have HX2 := Aside0.mk (below_step (by repeat (first | (with_reducible first | exact HX.out | apply below_alloc | apply pw_below_drewN | apply below_drew1) | exact HX.out)) hb); have HGX := Aside0.mk ((by rw [hg]; exact (below_size (by repeat (first | (with_reducible first | exact HX.out | apply below_alloc | apply pw_below_drewN | apply below_drew1) | exact HX.out))) : w24.heap.size ≤ gb111)); clear HX; have HX := HX2; clear HX2; have n0_ := Aside0.mk (Kd.R_below (Kd.R_elderB (by (with_reducible repeat (first | apply Kd.R_alloc | apply Kd.R_drewN | apply Kd.R_drew)); exact HO110.out) gb111 (Nat.le_of_eq hg.symm)) hb); have n1_ := Aside0.mk (blk_below (g := gb101) (o := .cells #[.int .i64 a0_0, .string a0_1, .string a0_2, .slice A0_3 l0_3.length c0_3] 24 (0, 0)) (by (with_reducible repeat (first | refine blk_drewN ?_ _ | refine blk_drew ?_ | refine blk_alloc ?_ _)); exact BK101.out) hb); have n2_ := Aside0.mk (below_step (by repeat (first | (with_reducible first | exact HB.out | apply below_alloc | apply pw_below_drewN | apply below_drew1 | refine below_set ?_ GE101.out) | exact HB.out)) hb); have n3_ := Aside0.mk (hbox); have n4_ := Aside0.mk ((by rw [hg]; exact (below_size (by repeat (first | (with_reducible first | exact HB.out | apply below_alloc | apply pw_below_drewN | apply below_drew1 | refine below_set ?_ GE101.out) | exact HB.out))) : w.heap.size ≤ gb111)); have n5_ := Aside0.mk ((by rw [hg]; exact (below_size (by repeat (first | (with_reducible first | exact HB.out | apply below_alloc | apply pw_below_drewN | apply below_drew1 | refine below_set ?_ GE101.out) | exact HB.out))) : w.heap.size ≤ gb111)); have n6_ := Aside0.mk ((by rw [hg]; exact Nat.ne_of_lt (blk_lt (g := gb101) (o := .cells #[.int .i64 a0_0, .string a0_1, .string a0_2, .slice A0_3 l0_3.length c0_3] 24 (0, 0)) (by (with_reducible repeat (first | refine blk_drewN ?_ _ | refine blk_drew ?_ | refine blk_alloc ?_ _)); exact BK101.out)) : gb101 ≠ gb111)); have n7_ := Aside0.mk ((by rw [hg]; exact Nat.ne_of_gt (blk_lt (g := gb101) (o := .cells #[.int .i64 a0_0, .string a0_1, .string a0_2, .slice A0_3 l0_3.length c0_3] 24 (0, 0)) (by (with_reducible repeat (first | refine blk_drewN ?_ _ | refine blk_drew ?_ | refine blk_alloc ?_ _)); exact BK101.out)) : gb111 ≠ gb101)); clear HO110; clear BK101; clear HB; have HO110 := n0_; have BK101 := n1_; have HB := n2_; have BK111 := n3_; have GW111 := n4_; have GE111 := n5_; have NB101_111 := n6_; have NB111_101 := n7_; clear n0_ n1_ n2_ n3_ n4_ n5_ n6_ n7_; clear hb hbox hg; have hnb26 := NB111_101.out; have hnc26 := NB101_111.out; have hcz27_0 : w25.cell? ⟨gb111, 0, none⟩ = some (.int .i64 0) := (blk_cell BK111.out 0).trans rfl; have hcz27_1 : w25.cell? ⟨gb111, 1, none⟩ = some (.string (⟨#[]⟩ : ByteArray)) := (blk_cell BK111.out 1).trans rfl; have hcz27_2 : w25.cell? ⟨gb111, 2, none⟩ = some (.string (⟨#[]⟩ : ByteArray)) := (blk_cell BK111.out 2).trans rfl; have hcz27_3 : w25.cell? ⟨gb111, 3, none⟩ = some (.slice none 0 0) := (blk_cell BK111.out 3).trans rfl; have hfz27_0 := blk_frozen BK111.out 0; have hfz27_1 := blk_frozen BK111.out 1; have hfz27_2 := blk_frozen BK111.out 2; have hfz27_3 := blk_frozen BK111.out 3; obtain ⟨A1_3, c1_3, eo28⟩ := Kd.R_slice HO110.out; subst eo28))
        (try simp only [Act.put, List.setIfInBounds_toArray, List.set_cons_zero, List.set_cons_succ])
        have n0_ : Aside0 (((((w25.setCell ⟨gb111, 0, none⟩ (.int .i64 a1_0)).setCell ⟨gb111, 1, none⟩ (.string a1_1)).setCell ⟨gb111, 2, none⟩ (.string a1_2)).setCell ⟨gb111, 3, none⟩ (.slice A1_3 l1_3.length c1_3)).heap[gb101]? = some (.cells #[.int .i64 a0_0, .string a0_1, .string a0_2, .slice A0_3 l0_3.length c0_3] 24 (0, 0))) := ⟨by (with_reducible repeat (first | refine blk_drewN ?_ _ | refine blk_drew ?_ | refine blk_alloc ?_ _)); refine blk_far ?_ NB101_111.out _; (with_reducible repeat (first | refine blk_drewN ?_ _ | refine blk_drew ?_ | refine blk_alloc ?_ _)); refine blk_far ?_ NB101_111.out _; (with_reducible repeat (first | refine blk_drewN ?_ _ | refine blk_drew ?_ | refine blk_alloc ?_ _)); refine blk_far ?_ NB101_111.out _; (with_reducible repeat (first | refine blk_drewN ?_ _ | refine blk_drew ?_ | refine blk_alloc ?_ _)); refine blk_far ?_ NB101_111.out _; (with_reducible repeat (first | refine blk_drewN ?_ _ | refine blk_drew ?_ | refine blk_alloc ?_ _)); exact BK101.out⟩
        have n1_ : Aside0 (((((w25.setCell ⟨gb111, 0, none⟩ (.int .i64 a1_0)).setCell ⟨gb111, 1, none⟩ (.string a1_1)).setCell ⟨gb111, 2, none⟩ (.string a1_2)).setCell ⟨gb111, 3, none⟩ (.slice A1_3 l1_3.length c1_3)).heap[gb111]? = some (.cells #[.int .i64 a1_0, .string a1_1, .string a1_2, .slice A1_3 l1_3.length c1_3] 24 (0, 0))) := ⟨by (with_reducible repeat (first | refine blk_drewN ?_ _ | refine blk_drew ?_ | refine blk_alloc ?_ _)); refine blk_put (cs := #[.int .i64 a1_0, .string a1_1, .string a1_2, .slice none 0 0]) ?_ 3 _ rfl; (with_reducible repeat (first | refine blk_drewN ?_ _ | refine blk_drew ?_ | refine blk_alloc ?_ _)); refine blk_put (cs := #[.int .i64 a1_0, .string a1_1, .string (⟨#[]⟩ : ByteArray), .slice none 0 0]) ?_ 2 _ rfl; (with_reducible repeat (first | refine blk_drewN ?_ _ | refine blk_drew ?_ | refine blk_alloc ?_ _)); refine blk_put (cs := #[.int .i64 a1_0, .string (⟨#[]⟩ : ByteArray), .string (⟨#[]⟩ : ByteArray), .slice none 0 0]) ?_ 1 _ rfl; (with_reducible repeat (first | refine blk_drewN ?_ _ | refine blk_drew ?_ | refine blk_alloc ?_ _)); refine blk_put (cs := #[.int .i64 0, .string (⟨#[]⟩ : ByteArray), .string (⟨#[]⟩ : ByteArray), .slice none 0 0]) ?_ 0 _ rfl; (with_reducible repeat (first | refine blk_drewN ?_ _ | refine blk_drew ?_ | refine blk_alloc ?_ _)); exact BK111.out⟩
        have n2_ : Aside0 (Below w.heap.size w ((((w25.setCell ⟨gb111, 0, none⟩ (.int .i64 a1_0)).setCell ⟨gb111, 1, none⟩ (.string a1_1)).setCell ⟨gb111, 2, none⟩ (.string a1_2)).setCell ⟨gb111, 3, none⟩ (.slice A1_3 l1_3.length c1_3))) := ⟨by repeat (first | (with_reducible first | exact HB.out | apply below_alloc | apply pw_below_drewN | apply below_drew1 | refine below_set ?_ GE101.out | refine below_set ?_ GE111.out) | exact HB.out)⟩
        have n3_ : Aside0 (Below w24.heap.size w24 ((((w25.setCell ⟨gb111, 0, none⟩ (.int .i64 a1_0)).setCell ⟨gb111, 1, none⟩ (.string a1_1)).setCell ⟨gb111, 2, none⟩ (.string a1_2)).setCell ⟨gb111, 3, none⟩ (.slice A1_3 l1_3.length c1_3))) := ⟨by repeat (first | (with_reducible first | exact HX.out | apply below_alloc | apply pw_below_drewN | apply below_drew1 | refine below_set ?_ HGX.out) | exact HX.out)⟩
        (try clear HO110)
        (try clear BK101)
        (try clear BK111)
        (try clear HB)
        (try clear HX)
        (try clear hcz27_0)
        (try clear hfz27_0)
        (try clear hcz23_0)
        (try clear hfz23_0)
        (try clear hcz27_1)
        (try clear hfz27_1)
        (try clear hcz23_1)
        (try clear hfz23_1)
        (try clear hcz27_2)
        (try clear hfz27_2)
        (try clear hcz23_2)
        (try clear hfz23_2)
        (try clear hcz27_3)
        (try clear hfz27_3)
        (try clear hcz23_3)
        (try clear hfz23_3)
        (try clear hnb26)
        (try clear hnc26)
        generalize ((((w25.setCell ⟨gb111, 0, none⟩ (.int .i64 a1_0)).setCell ⟨gb111, 1, none⟩ (.string a1_1)).setCell ⟨gb111, 2, none⟩ (.string a1_2)).setCell ⟨gb111, 3, none⟩ (.slice A1_3 l1_3.length c1_3)) = wt at n0_ n1_ n2_ n3_ ⊢
        have BK101 := n0_
        have BK111 := n1_
        have HBW := n2_
        have HX := n3_
        clear n0_ n1_ n2_ n3_
        have HR1_3 := Aside0.mk (Kd.F_now (zone_F HRO.out HX.out))
        have HC1_3 := Aside0.mk ((Kd.R_reads' HRO.out).2.1)
        have HB := Aside0.mk (Below.refl wt.heap.size wt)
        have hcyE_0 : wt.cell? ⟨gb101, 0, none⟩ = some (.int .i64 a0_0) := (blk_cell BK101.out 0).trans rfl
        have hcyO_0 : wt.cell? ⟨gb111, 0, none⟩ = some (.int .i64 a1_0) := (blk_cell BK111.out 0).trans rfl
        have hcyE_1 : wt.cell? ⟨gb101, 1, none⟩ = some (.string a0_1) := (blk_cell BK101.out 1).trans rfl
        have hcyO_1 : wt.cell? ⟨gb111, 1, none⟩ = some (.string a1_1) := (blk_cell BK111.out 1).trans rfl
        have hcyE_2 : wt.cell? ⟨gb101, 2, none⟩ = some (.string a0_2) := (blk_cell BK101.out 2).trans rfl
        have hcyO_2 : wt.cell? ⟨gb111, 2, none⟩ = some (.string a1_2) := (blk_cell BK111.out 2).trans rfl
        have hcyE_3 : wt.cell? ⟨gb101, 3, none⟩ = some (.slice A0_3 l0_3.length c0_3) := (blk_cell BK101.out 3).trans rfl
        have hcyO_3 : wt.cell? ⟨gb111, 3, none⟩ = some (.slice A1_3 l1_3.length c1_3) := (blk_cell BK111.out 3).trans rfl
        replace H : ((map28.f kj1 a1_0 a1_1 a1_2 l1_3).bind fun bt103 => ((expr_Clone.f kj1 a1_0 a1_1 a1_2 l1_3).bind fun bt110 => ((vestrylaw10_marked.f kj1 a0_0 a0_1 a0_2 l0_3).bind fun bt117 => ((vestryref10_Compare.f kj1 bt103.1 bt103.2.1 bt103.2.2.1 bt103.2.2.2 bt117.1 bt117.2.1 bt117.2.2.1 bt117.2.2.2).bind fun t123 => (if t123 = 0 then ((vestryref10_Compare.f kj1 a1_0 a1_1 a1_2 l1_3 a0_0 a0_1 a0_2 l0_3).bind fun t124 => (if t124 = 0 then ((vestryref10_Compare.f kj1 bt110.1 bt110.2.1 bt110.2.2.1 bt110.2.2.2 a0_0 a0_1 a0_2 l0_3).bind fun t125 => (some (t125 == 0))) else (some false))) else (some false)))))) = some true := H
        replace H := Option.bind_eq_some_iff.mp H
        obtain ⟨⟨t103, t104, t105, t106⟩, A30, H⟩ := H
        replace H : ((expr_Clone.f kj1 a1_0 a1_1 a1_2 l1_3).bind fun bt110 => ((vestrylaw10_marked.f kj1 a0_0 a0_1 a0_2 l0_3).bind fun bt117 => ((vestryref10_Compare.f kj1 t103 t104 t105 t106 bt117.1 bt117.2.1 bt117.2.2.1 bt117.2.2.2).bind fun t123 => (if t123 = 0 then ((vestryref10_Compare.f kj1 a1_0 a1_1 a1_2 l1_3 a0_0 a0_1 a0_2 l0_3).bind fun t124 => (if t124 = 0 then ((vestryref10_Compare.f kj1 bt110.1 bt110.2.1 bt110.2.2.1 bt110.2.2.2 a0_0 a0_1 a0_2 l0_3).bind fun t125 => (some (t125 == 0))) else (some false))) else (some false))))) = some true := H
        have A3 := Aside0.mk A30
        clear A30
        replace H := Option.bind_eq_some_iff.mp H
        obtain ⟨⟨t110, t111, t112, t113⟩, A40, H⟩ := H
        replace H : ((vestrylaw10_marked.f kj1 a0_0 a0_1 a0_2 l0_3).bind fun bt117 => ((vestryref10_Compare.f kj1 t103 t104 t105 t106 bt117.1 bt117.2.1 bt117.2.2.1 bt117.2.2.2).bind fun t123 => (if t123 = 0 then ((vestryref10_Compare.f kj1 a1_0 a1_1 a1_2 l1_3 a0_0 a0_1 a0_2 l0_3).bind fun t124 => (if t124 = 0 then ((vestryref10_Compare.f kj1 t110 t111 t112 t113 a0_0 a0_1 a0_2 l0_3).bind fun t125 => (some (t125 == 0))) else (some false))) else (some false)))) = some true := H
        have A4 := Aside0.mk A40
        clear A40
        replace H := Option.bind_eq_some_iff.mp H
        obtain ⟨⟨t117, t118, t119, t120⟩, A50, H⟩ := H
        replace H : ((vestryref10_Compare.f kj1 t103 t104 t105 t106 t117 t118 t119 t120).bind fun t123 => (if t123 = 0 then ((vestryref10_Compare.f kj1 a1_0 a1_1 a1_2 l1_3 a0_0 a0_1 a0_2 l0_3).bind fun t124 => (if t124 = 0 then ((vestryref10_Compare.f kj1 t110 t111 t112 t113 a0_0 a0_1 a0_2 l0_3).bind fun t125 => (some (t125 == 0))) else (some false))) else (some false))) = some true := H
        have A5 := Aside0.mk A50
        clear A50
        replace H := Option.bind_eq_some_iff.mp H
        obtain ⟨t123, A60, H⟩ := H
        replace H : (if t123 = 0 then ((vestryref10_Compare.f kj1 a1_0 a1_1 a1_2 l1_3 a0_0 a0_1 a0_2 l0_3).bind fun t124 => (if t124 = 0 then ((vestryref10_Compare.f kj1 t110 t111 t112 t113 a0_0 a0_1 a0_2 l0_3).bind fun t125 => (some (t125 == 0))) else (some false))) else (some false)) = some true := H
        have A6 := Aside0.mk A60
        clear A60
        by_cases c7 : t123 = 0
        · rw [if_pos c7] at H
          have c7b0 : (t123 == 0) = true := beq_iff_eq.mpr c7
          have c7b1 : (t123 != 0) = false := bne_eq_false_iff_eq.mpr c7
          clear c7
          replace H := Option.bind_eq_some_iff.mp H
          obtain ⟨t124, A80, H⟩ := H
          replace H : (if t124 = 0 then ((vestryref10_Compare.f kj1 t110 t111 t112 t113 a0_0 a0_1 a0_2 l0_3).bind fun t125 => (some (t125 == 0))) else (some false)) = some true := H
          have A8 := Aside0.mk A80
          clear A80
          by_cases c9 : t124 = 0
          · rw [if_pos c9] at H
            have c9b0 : (t124 == 0) = true := beq_iff_eq.mpr c9
            have c9b1 : (t124 != 0) = false := bne_eq_false_iff_eq.mpr c9
            clear c9
            replace H := Option.bind_eq_some_iff.mp H
            obtain ⟨t125, A100, H⟩ := H
            replace H : (some (t125 == 0)) = some true := H
            have A10 := Aside0.mk A100
            clear A100
            have HRES := Aside0.mk (Option.some.inj H)
            clear H
            try go_wp2_with (first | ((with_reducible refine gate_dst (N := 3) rfl ?_); refine box_event ?hg (N := 3) ?hd (cs := #[.int .i64 a1_0, .string a1_1, .string a1_2, .slice A1_3 l1_3.length c1_3]) (t := 24) ?hr ?_; (case hd => rfl); (case hg => rfl); (case hr => first | (go_simp; done) | (go_simp; rfl)); intro gb111 hg w11 hbox hb; have n0_ := Aside0.mk (below_step (by repeat (first | (with_reducible first | exact HB.out | apply below_alloc | apply pw_below_drewN | apply below_drew1) | exact HB.out)) hb); have n1_ := Aside0.mk (hbox); have n2_ := Aside0.mk ((by rw [hg]; exact (below_size (by repeat (first | (with_reducible first | exact HB.out | apply below_alloc | apply pw_below_drewN | apply below_drew1) | exact HB.out))) : wt.heap.size ≤ gb111)); have n3_ := Aside0.mk ((by rw [hg]; exact (below_size (by repeat (first | (with_reducible first | exact HB.out | apply below_alloc | apply pw_below_drewN | apply below_drew1) | exact HB.out))) : wt.heap.size ≤ gb111)); clear HB; have HB := n0_; have BK111 := n1_; have GW111 := n2_; have GE111 := n3_; clear n0_ n1_ n2_ n3_; clear hb hbox hg) | ((with_reducible refine gate_dst (N := 1) rfl ?_); refine box_event ?hg (N := 1) ?hd (cs := #[.int .i64 a0_0, .string a0_1, .string a0_2, .slice A0_3 l0_3.length c0_3]) (t := 24) ?hr ?_; (case hd => rfl); (case hg => rfl); (case hr => first | (go_simp; done) | (go_simp; rfl)); intro gb101 hg w12 hbox hb; have n0_ := Aside0.mk (blk_below (g := gb111) (o := .cells #[.int .i64 a1_0, .string a1_1, .string a1_2, .slice A1_3 l1_3.length c1_3] 24 (0, 0)) (by (with_reducible repeat (first | refine blk_drewN ?_ _ | refine blk_drew ?_ | refine blk_alloc ?_ _)); exact BK111.out) hb); have n1_ := Aside0.mk (below_step (by repeat (first | (with_reducible first | exact HB.out | apply below_alloc | apply pw_below_drewN | apply below_drew1 | refine below_set ?_ GE111.out) | exact HB.out)) hb); have n2_ := Aside0.mk (hbox); have n3_ := Aside0.mk ((by rw [hg]; exact (below_size (by repeat (first | (with_reducible first | exact HB.out | apply below_alloc | apply pw_below_drewN | apply below_drew1 | refine below_set ?_ GE111.out) | exact HB.out))) : wt.heap.size ≤ gb101)); have n4_ := Aside0.mk ((by rw [hg]; exact (below_size (by repeat (first | (with_reducible first | exact HB.out | apply below_alloc | apply pw_below_drewN | apply below_drew1 | refine below_set ?_ GE111.out) | exact HB.out))) : wt.heap.size ≤ gb101)); have n5_ := Aside0.mk ((by rw [hg]; exact Nat.ne_of_lt (blk_lt (g := gb111) (o := .cells #[.int .i64 a1_0, .string a1_1, .string a1_2, .slice A1_3 l1_3.length c1_3] 24 (0, 0)) (by (with_reducible repeat (first | refine blk_drewN ?_ _ | refine blk_drew ?_ | refine blk_alloc ?_ _)); exact BK111.out)) : gb111 ≠ gb101)); have n6_ := Aside0.mk ((by rw [hg]; exact Nat.ne_of_gt (blk_lt (g := gb111) (o := .cells #[.int .i64 a1_0, .string a1_1, .string a1_2, .slice A1_3 l1_3.length c1_3] 24 (0, 0)) (by (with_reducible repeat (first | refine blk_drewN ?_ _ | refine blk_drew ?_ | refine blk_alloc ?_ _)); exact BK111.out)) : gb101 ≠ gb111)); clear BK111; clear HB; have BK111 := n0_; have HB := n1_; have BK101 := n2_; have GW101 := n3_; have GE101 := n4_; have NB111_101 := n5_; have NB101_111 := n6_; clear n0_ n1_ n2_ n3_ n4_ n5_ n6_; clear hb hbox hg; have hnb13 := NB111_101.out; have hnc13 := NB101_111.out; have hcz14_0 : w12.cell? ⟨gb111, 0, none⟩ = some (.int .i64 a1_0) := (blk_cell BK111.out 0).trans rfl; have hcz14_1 : w12.cell? ⟨gb111, 1, none⟩ = some (.string a1_1) := (blk_cell BK111.out 1).trans rfl; have hcz14_2 : w12.cell? ⟨gb111, 2, none⟩ = some (.string a1_2) := (blk_cell BK111.out 2).trans rfl; have hcz14_3 : w12.cell? ⟨gb111, 3, none⟩ = some (.slice A1_3 l1_3.length c1_3) := (blk_cell BK111.out 3).trans rfl; have hfz14_0 := blk_frozen BK111.out 0; have hfz14_1 := blk_frozen BK111.out 1; have hfz14_2 := blk_frozen BK111.out 2; have hfz14_3 := blk_frozen BK111.out 3) | ((with_reducible refine gate_callee (f := 27) rfl ?_); refine goesL_ (some 18) rfl rfl Tryd.func27 (by kernel_rfl) rfl #[.agg #[.int .i64 a1_0, .string a1_1, .string a1_2, .slice A1_3 l1_3.length c1_3], .func (.func 28) #[] #[]] rfl (by (try simp only [List.map_toArray, List.map_cons, List.map_nil]); first | done | rfl | (simp only [List.length_drop, List.length_take]; rfl)) ?_; (with_reducible refine (map28.calls kj1 a1_0 a1_1 a1_2 _ _ l1_3 t103 t104 t105 t106 _ ?side1 ?side2 A3.out).mono ?_); (case side1 => repeat (first | exact (Kd.C_below HR1_3.out HB.out) | (with_reducible refine Kd.C_alloc ?_ _) | (with_reducible refine Kd.C_drewN ?_ _) | (with_reducible refine Kd.C_drew ?_))); (case side2 => exact HC1_3.out); rintro e w15 ⟨v107, rfl, ho0, hb⟩; refine ⟨_, rfl, ?_⟩; have n0_ := Aside0.mk (Kd.V_lower (Kd.V_mono (ok' := fun k_ => k_ ≠ gb111 ∧ k_ ≠ gb101) ho0 (fun k_ hk_ => ⟨(Kd.freshB (g := gb111) (o := .cells #[.int .i64 a1_0, .string a1_1, .string a1_2, .slice A1_3 l1_3.length c1_3] 24 (0, 0)) (by (with_reducible repeat (first | refine blk_drewN ?_ _ | refine blk_drew ?_ | refine blk_alloc ?_ _)); exact BK111.out) k_ hk_), (Kd.freshB (g := gb101) (o := .cells #[.int .i64 a0_0, .string a0_1, .string a0_2, .slice A0_3 l0_3.length c0_3] 24 (0, 0)) (by (with_reducible repeat (first | refine blk_drewN ?_ _ | refine blk_drew ?_ | refine blk_alloc ?_ _)); exact BK101.out) k_ hk_)⟩)) (below_size (by repeat (first | (with_reducible first | exact HB.out | apply below_alloc | apply pw_below_drewN | apply below_drew1 | refine below_set ?_ GE111.out | refine below_set ?_ GE101.out) | exact HB.out)))); have n1_ := Aside0.mk (blk_below (g := gb111) (o := .cells #[.int .i64 a1_0, .string a1_1, .string a1_2, .slice A1_3 l1_3.length c1_3] 24 (0, 0)) (by (with_reducible repeat (first | refine blk_drewN ?_ _ | refine blk_drew ?_ | refine blk_alloc ?_ _)); exact BK111.out) hb); have n2_ := Aside0.mk (blk_below (g := gb101) (o := .cells #[.int .i64 a0_0, .string a0_1, .string a0_2, .slice A0_3 l0_3.length c0_3] 24 (0, 0)) (by (with_reducible repeat (first | refine blk_drewN ?_ _ | refine blk_drew ?_ | refine blk_alloc ?_ _)); exact BK101.out) hb); have n3_ := Aside0.mk (below_step (by repeat (first | (with_reducible first | exact HB.out | apply below_alloc | apply pw_below_drewN | apply below_drew1 | refine below_set ?_ GE111.out | refine below_set ?_ GE101.out) | exact HB.out)) hb); clear BK111; clear BK101; clear HB; have HO108 := n0_; have BK111 := n1_; have BK101 := n2_; have HB := n3_; clear n0_ n1_ n2_ n3_; (try clear hb); (try clear hb2); (try clear hk); (try clear hi); (try clear ho0)) | ((with_reducible refine gate_dst (N := 4) rfl ?_); refine box_event ?hg (N := 4) ?hd (cs := #[.int .i64 0, .string (⟨#[]⟩ : ByteArray), .string (⟨#[]⟩ : ByteArray), .slice none 0 0]) (t := 24) ?hr ?_; (case hd => rfl); (case hg => rfl); (case hr => first | (go_simp; done) | (go_simp; rfl)); intro gb109 hg w16 hbox hb; have n0_ := Aside0.mk (Kd.V_below (Kd.V_elderB (by (with_reducible repeat (first | apply Kd.V_alloc | apply Kd.V_drewN | apply Kd.V_drew)); exact HO108.out) gb109 (Nat.le_of_eq hg.symm)) hb); have n1_ := Aside0.mk (blk_below (g := gb111) (o := .cells #[.int .i64 a1_0, .string a1_1, .string a1_2, .slice A1_3 l1_3.length c1_3] 24 (0, 0)) (by (with_reducible repeat (first | refine blk_drewN ?_ _ | refine blk_drew ?_ | refine blk_alloc ?_ _)); exact BK111.out) hb); have n2_ := Aside0.mk (blk_below (g := gb101) (o := .cells #[.int .i64 a0_0, .string a0_1, .string a0_2, .slice A0_3 l0_3.length c0_3] 24 (0, 0)) (by (with_reducible repeat (first | refine blk_drewN ?_ _ | refine blk_drew ?_ | refine blk_alloc ?_ _)); exact BK101.out) hb); have n3_ := Aside0.mk (below_step (by repeat (first | (with_reducible first | exact HB.out | apply below_alloc | apply pw_below_drewN | apply below_drew1 | refine below_set ?_ GE111.out | refine below_set ?_ GE101.out) | exact HB.out)) hb); have n4_ := Aside0.mk (hbox); have n5_ := Aside0.mk ((by rw [hg]; exact (below_size (by repeat (first | (with_reducible first | exact HB.out | apply below_alloc | apply pw_below_drewN | apply below_drew1 | refine below_set ?_ GE111.out | refine below_set ?_ GE101.out) | exact HB.out))) : wt.heap.size ≤ gb109)); have n6_ := Aside0.mk ((by rw [hg]; exact (below_size (by repeat (first | (with_reducible first | exact HB.out | apply below_alloc | apply pw_below_drewN | apply below_drew1 | refine below_set ?_ GE111.out | refine below_set ?_ GE101.out) | exact HB.out))) : wt.heap.size ≤ gb109)); have n7_ := Aside0.mk ((by rw [hg]; exact Nat.ne_of_lt (blk_lt (g := gb111) (o := .cells #[.int .i64 a1_0, .string a1_1, .string a1_2, .slice A1_3 l1_3.length c1_3] 24 (0, 0)) (by (with_reducible repeat (first | refine blk_drewN ?_ _ | refine blk_drew ?_ | refine blk_alloc ?_ _)); exact BK111.out)) : gb111 ≠ gb109)); have n8_ := Aside0.mk ((by rw [hg]; exact Nat.ne_of_gt (blk_lt (g := gb111) (o := .cells #[.int .i64 a1_0, .string a1_1, .string a1_2, .slice A1_3 l1_3.length c1_3] 24 (0, 0)) (by (with_reducible repeat (first | refine blk_drewN ?_ _ | refine blk_drew ?_ | refine blk_alloc ?_ _)); exact BK111.out)) : gb109 ≠ gb111)); have n9_ := Aside0.mk ((by rw [hg]; exact Nat.ne_of_lt (blk_lt (g := gb101) (o := .cells #[.int .i64 a0_0, .string a0_1, .string a0_2, .slice A0_3 l0_3.length c0_3] 24 (0, 0)) (by (with_reducible repeat (first | refine blk_drewN ?_ _ | refine blk_drew ?_ | refine blk_alloc ?_ _)); exact BK101.out)) : gb101 ≠ gb109)); have n10_ := Aside0.mk ((by rw [hg]; exact Nat.ne_of_gt (blk_lt (g := gb101) (o := .cells #[.int .i64 a0_0, .string a0_1, .string a0_2, .slice A0_3 l0_3.length c0_3] 24 (0, 0)) (by (with_reducible repeat (first | refine blk_drewN ?_ _ | refine blk_drew ?_ | refine blk_alloc ?_ _)); exact BK101.out)) : gb109 ≠ gb101)); clear HO108; clear BK111; clear BK101; clear HB; have HO108 := n0_; have BK111 := n1_; have BK101 := n2_; have HB := n3_; have BK109 := n4_; have GW109 := n5_; have GE109 := n6_; have NB111_109 := n7_; have NB109_111 := n8_; have NB101_109 := n9_; have NB109_101 := n10_; clear n0_ n1_ n2_ n3_ n4_ n5_ n6_ n7_ n8_ n9_ n10_; clear hb hbox hg; have hnb17 := NB109_111.out; have hnc17 := NB111_109.out; have hnb18 := NB109_101.out; have hnc18 := NB101_109.out; have hcz19_0 : w16.cell? ⟨gb109, 0, none⟩ = some (.int .i64 0) := (blk_cell BK109.out 0).trans rfl; have hcz19_1 : w16.cell? ⟨gb109, 1, none⟩ = some (.string (⟨#[]⟩ : ByteArray)) := (blk_cell BK109.out 1).trans rfl; have hcz19_2 : w16.cell? ⟨gb109, 2, none⟩ = some (.string (⟨#[]⟩ : ByteArray)) := (blk_cell BK109.out 2).trans rfl; have hcz19_3 : w16.cell? ⟨gb109, 3, none⟩ = some (.slice none 0 0) := (blk_cell BK109.out 3).trans rfl; have hfz19_0 := blk_frozen BK109.out 0; have hfz19_1 := blk_frozen BK109.out 1; have hfz19_2 := blk_frozen BK109.out 2; have hfz19_3 := blk_frozen BK109.out 3; obtain ⟨Ao20, co20, eo20⟩ := Kd.V_slice HO108.out; subst eo20; have hcz21_0 : w16.cell? ⟨gb111, 0, none⟩ = some (.int .i64 a1_0) := (blk_cell BK111.out 0).trans rfl; have hcz21_1 : w16.cell? ⟨gb111, 1, none⟩ = some (.string a1_1) := (blk_cell BK111.out 1).trans rfl; have hcz21_2 : w16.cell? ⟨gb111, 2, none⟩ = some (.string a1_2) := (blk_cell BK111.out 2).trans rfl; have hcz21_3 : w16.cell? ⟨gb111, 3, none⟩ = some (.slice A1_3 l1_3.length c1_3) := (blk_cell BK111.out 3).trans rfl; have hfz21_0 := blk_frozen BK111.out 0; have hfz21_1 := blk_frozen BK111.out 1; have hfz21_2 := blk_frozen BK111.out 2; have hfz21_3 := blk_frozen BK111.out 3) | ((with_reducible refine gate_callee (f := 29) rfl ?_); refine goesL_ (some 20) rfl rfl Tryd.func29 (by kernel_rfl) rfl #[.agg #[.int .i64 a1_0, .string a1_1, .string a1_2, .slice A1_3 l1_3.length c1_3]] rfl (by (try simp only [List.map_toArray, List.map_cons, List.map_nil]); first | done | rfl | (simp only [List.length_drop, List.length_take]; rfl)) ?_; (with_reducible refine (expr_Clone.calls kj1 a1_0 a1_1 a1_2 _ _ l1_3 t110 t111 t112 t113 _ ?side1 ?side2 A4.out).mono ?_); (case side1 => exact Kd.C_below HR1_3.out (by repeat (first | (with_reducible first | exact HB.out | apply below_alloc | apply pw_below_drewN | apply below_drew1 | refine below_set ?_ GE111.out | refine below_set ?_ GE101.out | refine below_set ?_ GE109.out) | exact HB.out))); (case side2 => exact HC1_3.out); rintro e w22 ⟨v114, rfl, ho0, hb⟩; refine ⟨_, rfl, ?_⟩; have n0_ := Aside0.mk (Kd.V_below (by (with_reducible repeat (first | apply Kd.V_alloc | apply Kd.V_drewN | apply Kd.V_drew)); exact (Kd.V_mono (Kd.V_far (p := ⟨gb109, 3, none⟩) (Kd.V_far (p := ⟨gb109, 2, none⟩) (Kd.V_far (p := ⟨gb109, 1, none⟩) (Kd.V_far (p := ⟨gb109, 0, none⟩) (Kd.V_mono HO108.out (fun k_ hk => (⟨hk, hk.2⟩ : _ ∧ k_ ≠ gb109))) (fun _ hk => hk.2) (.int .i64 t103)) (fun _ hk => hk.2) (.string t104)) (fun _ hk => hk.2) (.string t105)) (fun _ hk => hk.2) (.slice Ao20 t106.length co20)) (fun _ h_ => h_.1))) hb); have n1_ := Aside0.mk (Kd.V_lower (V_andge (A := fun k_ => k_ ≠ gb111) (B := fun k_ => k_ ≠ gb101) (C := fun k_ => k_ ≠ gb109) (D := fun k_ => wt.heap.size ≤ k_) ho0 (fun k_ hk_ => ⟨(Kd.freshB (g := gb111) (o := .cells #[.int .i64 a1_0, .string a1_1, .string a1_2, .slice A1_3 l1_3.length c1_3] 24 (0, 0)) (by (with_reducible repeat (first | refine blk_drewN ?_ _ | refine blk_drew ?_ | refine blk_alloc ?_ _)); refine blk_far ?_ NB111_109.out _; (with_reducible repeat (first | refine blk_drewN ?_ _ | refine blk_drew ?_ | refine blk_alloc ?_ _)); refine blk_far ?_ NB111_109.out _; (with_reducible repeat (first | refine blk_drewN ?_ _ | refine blk_drew ?_ | refine blk_alloc ?_ _)); refine blk_far ?_ NB111_109.out _; (with_reducible repeat (first | refine blk_drewN ?_ _ | refine blk_drew ?_ | refine blk_alloc ?_ _)); refine blk_far ?_ NB111_109.out _; (with_reducible repeat (first | refine blk_drewN ?_ _ | refine blk_drew ?_ | refine blk_alloc ?_ _)); exact BK111.out) k_ hk_), (Kd.freshB (g := gb101) (o := .cells #[.int .i64 a0_0, .string a0_1, .string a0_2, .slice A0_3 l0_3.length c0_3] 24 (0, 0)) (by (with_reducible repeat (first | refine blk_drewN ?_ _ | refine blk_drew ?_ | refine blk_alloc ?_ _)); refine blk_far ?_ NB101_109.out _; (with_reducible repeat (first | refine blk_drewN ?_ _ | refine blk_drew ?_ | refine blk_alloc ?_ _)); refine blk_far ?_ NB101_109.out _; (with_reducible repeat (first | refine blk_drewN ?_ _ | refine blk_drew ?_ | refine blk_alloc ?_ _)); refine blk_far ?_ NB101_109.out _; (with_reducible repeat (first | refine blk_drewN ?_ _ | refine blk_drew ?_ | refine blk_alloc ?_ _)); refine blk_far ?_ NB101_109.out _; (with_reducible repeat (first | refine blk_drewN ?_ _ | refine blk_drew ?_ | refine blk_alloc ?_ _)); exact BK101.out) k_ hk_), (Kd.freshB (g := gb109) (o := .cells #[.int .i64 t103, .string t104, .string t105, .slice Ao20 t106.length co20] 24 (0, 0)) (by (with_reducible repeat (first | refine blk_drewN ?_ _ | refine blk_drew ?_ | refine blk_alloc ?_ _)); refine blk_put (cs := #[.int .i64 t103, .string t104, .string t105, .slice none 0 0]) ?_ 3 _ rfl; (with_reducible repeat (first | refine blk_drewN ?_ _ | refine blk_drew ?_ | refine blk_alloc ?_ _)); refine blk_put (cs := #[.int .i64 t103, .string t104, .string (⟨#[]⟩ : ByteArray), .slice none 0 0]) ?_ 2 _ rfl; (with_reducible repeat (first | refine blk_drewN ?_ _ | refine blk_drew ?_ | refine blk_alloc ?_ _)); refine blk_put (cs := #[.int .i64 t103, .string (⟨#[]⟩ : ByteArray), .string (⟨#[]⟩ : ByteArray), .slice none 0 0]) ?_ 1 _ rfl; (with_reducible repeat (first | refine blk_drewN ?_ _ | refine blk_drew ?_ | refine blk_alloc ?_ _)); refine blk_put (cs := #[.int .i64 0, .string (⟨#[]⟩ : ByteArray), .string (⟨#[]⟩ : ByteArray), .slice none 0 0]) ?_ 0 _ rfl; (with_reducible repeat (first | refine blk_drewN ?_ _ | refine blk_drew ?_ | refine blk_alloc ?_ _)); exact BK109.out) k_ hk_)⟩) (fun k_ hk_ => Nat.le_trans (below_size (by repeat (first | (with_reducible first | exact HB.out | apply below_alloc | apply pw_below_drewN | apply below_drew1 | refine below_set ?_ GE111.out | refine below_set ?_ GE101.out | refine below_set ?_ GE109.out) | exact HB.out))) hk_)) (below_size (by repeat (first | (with_reducible first | exact HB.out | apply below_alloc | apply pw_below_drewN | apply below_drew1 | refine below_set ?_ GE111.out | refine below_set ?_ GE101.out | refine below_set ?_ GE109.out) | exact HB.out)))); have n2_ := Aside0.mk (blk_below (g := gb111) (o := .cells #[.int .i64 a1_0, .string a1_1, .string a1_2, .slice A1_3 l1_3.length c1_3] 24 (0, 0)) (by (with_reducible repeat (first | refine blk_drewN ?_ _ | refine blk_drew ?_ | refine blk_alloc ?_ _)); refine blk_far ?_ NB111_109.out _; (with_reducible repeat (first | refine blk_drewN ?_ _ | refine blk_drew ?_ | refine blk_alloc ?_ _)); refine blk_far ?_ NB111_109.out _; (with_reducible repeat (first | refine blk_drewN ?_ _ | refine blk_drew ?_ | refine blk_alloc ?_ _)); refine blk_far ?_ NB111_109.out _; (with_reducible repeat (first | refine blk_drewN ?_ _ | refine blk_drew ?_ | refine blk_alloc ?_ _)); refine blk_far ?_ NB111_109.out _; (with_reducible repeat (first | refine blk_drewN ?_ _ | refine blk_drew ?_ | refine blk_alloc ?_ _)); exact BK111.out) hb); have n3_ := Aside0.mk (blk_below (g := gb101) (o := .cells #[.int .i64 a0_0, .string a0_1, .string a0_2, .slice A0_3 l0_3.length c0_3] 24 (0, 0)) (by (with_reducible repeat (first | refine blk_drewN ?_ _ | refine blk_drew ?_ | refine blk_alloc ?_ _)); refine blk_far ?_ NB101_109.out _; (with_reducible repeat (first | refine blk_drewN ?_ _ | refine blk_drew ?_ | refine blk_alloc ?_ _)); refine blk_far ?_ NB101_109.out _; (with_reducible repeat (first | refine blk_drewN ?_ _ | refine blk_drew ?_ | refine blk_alloc ?_ _)); refine blk_far ?_ NB101_109.out _; (with_reducible repeat (first | refine blk_drewN ?_ _ | refine blk_drew ?_ | refine blk_alloc ?_ _)); refine blk_far ?_ NB101_109.out _; (with_reducible repeat (first | refine blk_drewN ?_ _ | refine blk_drew ?_ | refine blk_alloc ?_ _)); exact BK101.out) hb); have n4_ := Aside0.mk (blk_below (g := gb109) (o := .cells #[.int .i64 t103, .string t104, .string t105, .slice Ao20 t106.length co20] 24 (0, 0)) (by (with_reducible repeat (first | refine blk_drewN ?_ _ | refine blk_drew ?_ | refine blk_alloc ?_ _)); refine blk_put (cs := #[.int .i64 t103, .string t104, .string t105, .slice none 0 0]) ?_ 3 _ rfl; (with_reducible repeat (first | refine blk_drewN ?_ _ | refine blk_drew ?_ | refine blk_alloc ?_ _)); refine blk_put (cs := #[.int .i64 t103, .string t104, .string (⟨#[]⟩ : ByteArray), .slice none 0 0]) ?_ 2 _ rfl; (with_reducible repeat (first | refine blk_drewN ?_ _ | refine blk_drew ?_ | refine blk_alloc ?_ _)); refine blk_put (cs := #[.int .i64 t103, .string (⟨#[]⟩ : ByteArray), .string (⟨#[]⟩ : ByteArray), .slice none 0 0]) ?_ 1 _ rfl; (with_reducible repeat (first | refine blk_drewN ?_ _ | refine blk_drew ?_ | refine blk_alloc ?_ _)); refine blk_put (cs := #[.int .i64 0, .string (⟨#[]⟩ : ByteArray), .string (⟨#[]⟩ : ByteArray), .slice none 0 0]) ?_ 0 _ rfl; (with_reducible repeat (first | refine blk_drewN ?_ _ | refine blk_drew ?_ | refine blk_alloc ?_ _)); exact BK109.out) hb); have n5_ := Aside0.mk (below_step (by repeat (first | (with_reducible first | exact HB.out | apply below_alloc | apply pw_below_drewN | apply below_drew1 | refine below_set ?_ GE111.out | refine below_set ?_ GE101.out | refine below_set ?_ GE109.out) | exact HB.out)) hb); clear HO108; clear BK111; clear BK101; clear BK109; clear HB; have HO108 := n0_; have HO115 := n1_; have BK111 := n2_; have BK101 := n3_; have BK109 := n4_; have HB := n5_; clear n0_ n1_ n2_ n3_ n4_ n5_; (try clear hb); (try clear hb2); (try clear hk); (try clear hi); (try clear ho0)) | ((with_reducible refine gate_dst (N := 5) rfl ?_); refine box_event ?hg (N := 5) ?hd (cs := #[.int .i64 0, .string (⟨#[]⟩ : ByteArray), .string (⟨#[]⟩ : ByteArray), .slice none 0 0]) (t := 24) ?hr ?_; (case hd => rfl); (case hg => rfl); (case hr => first | (go_simp; done) | (go_simp; rfl)); intro gb116 hg w23 hbox hb; have n0_ := Aside0.mk (Kd.V_below (Kd.V_elderB (by (with_reducible repeat (first | apply Kd.V_alloc | apply Kd.V_drewN | apply Kd.V_drew)); exact HO108.out) gb116 (Nat.le_of_eq hg.symm)) hb); have n1_ := Aside0.mk (Kd.V_below (Kd.V_elderB (by (with_reducible repeat (first | apply Kd.V_alloc | apply Kd.V_drewN | apply Kd.V_drew)); exact HO115.out) gb116 (Nat.le_of_eq hg.symm)) hb); have n2_ := Aside0.mk (blk_below (g := gb111) (o := .cells #[.int .i64 a1_0, .string a1_1, .string a1_2, .slice A1_3 l1_3.length c1_3] 24 (0, 0)) (by (with_reducible repeat (first | refine blk_drewN ?_ _ | refine blk_drew ?_ | refine blk_alloc ?_ _)); exact BK111.out) hb); have n3_ := Aside0.mk (blk_below (g := gb101) (o := .cells #[.int .i64 a0_0, .string a0_1, .string a0_2, .slice A0_3 l0_3.length c0_3] 24 (0, 0)) (by (with_reducible repeat (first | refine blk_drewN ?_ _ | refine blk_drew ?_ | refine blk_alloc ?_ _)); exact BK101.out) hb); have n4_ := Aside0.mk (blk_below (g := gb109) (o := .cells #[.int .i64 t103, .string t104, .string t105, .slice Ao20 t106.length co20] 24 (0, 0)) (by (with_reducible repeat (first | refine blk_drewN ?_ _ | refine blk_drew ?_ | refine blk_alloc ?_ _)); exact BK109.out) hb); have n5_ := Aside0.mk (below_step (by repeat (first | (with_reducible first | exact HB.out | apply below_alloc | apply pw_below_drewN | apply below_drew1 | refine below_set ?_ GE111.out | refine below_set ?_ GE101.out | refine below_set ?_ GE109.out) | exact HB.out)) hb); have n6_ := Aside0.mk (hbox); have n7_ := Aside0.mk ((by rw [hg]; exact (below_size (by repeat (first | (with_reducible first | exact HB.out | apply below_alloc | apply pw_below_drewN | apply below_drew1 | refine below_set ?_ GE111.out | refine below_set ?_ GE101.out | refine below_set ?_ GE109.out) | exact HB.out))) : wt.heap.size ≤ gb116)); have n8_ := Aside0.mk ((by rw [hg]; exact (below_size (by repeat (first | (with_reducible first | exact HB.out | apply below_alloc | apply pw_below_drewN | apply below_drew1 | refine below_set ?_ GE111.out | refine below_set ?_ GE101.out | refine below_set ?_ GE109.out) | exact HB.out))) : wt.heap.size ≤ gb116)); have n9_ := Aside0.mk ((by rw [hg]; exact Nat.ne_of_lt (blk_lt (g := gb111) (o := .cells #[.int .i64 a1_0, .string a1_1, .string a1_2, .slice A1_3 l1_3.length c1_3] 24 (0, 0)) (by (with_reducible repeat (first | refine blk_drewN ?_ _ | refine blk_drew ?_ | refine blk_alloc ?_ _)); exact BK111.out)) : gb111 ≠ gb116)); have n10_ := Aside0.mk ((by rw [hg]; exact Nat.ne_of_gt (blk_lt (g := gb111) (o := .cells #[.int .i64 a1_0, .string a1_1, .string a1_2, .slice A1_3 l1_3.length c1_3] 24 (0, 0)) (by (with_reducible repeat (first | refine blk_drewN ?_ _ | refine blk_drew ?_ | refine blk_alloc ?_ _)); exact BK111.out)) : gb116 ≠ gb111)); have n11_ := Aside0.mk ((by rw [hg]; exact Nat.ne_of_lt (blk_lt (g := gb101) (o := .cells #[.int .i64 a0_0, .string a0_1, .string a0_2, .slice A0_3 l0_3.length c0_3] 24 (0, 0)) (by (with_reducible repeat (first | refine blk_drewN ?_ _ | refine blk_drew ?_ | refine blk_alloc ?_ _)); exact BK101.out)) : gb101 ≠ gb116)); have n12_ := Aside0.mk ((by rw [hg]; exact Nat.ne_of_gt (blk_lt (g := gb101) (o := .cells #[.int .i64 a0_0, .string a0_1, .string a0_2, .slice A0_3 l0_3.length c0_3] 24 (0, 0)) (by (with_reducible repeat (first | refine blk_drewN ?_ _ | refine blk_drew ?_ | refine blk_alloc ?_ _)); exact BK101.out)) : gb116 ≠ gb101)); have n13_ := Aside0.mk ((by rw [hg]; exact Nat.ne_of_lt (blk_lt (g := gb109) (o := .cells #[.int .i64 t103, .string t104, .string t105, .slice Ao20 t106.length co20] 24 (0, 0)) (by (with_reducible repeat (first | refine blk_drewN ?_ _ | refine blk_drew ?_ | refine blk_alloc ?_ _)); exact BK109.out)) : gb109 ≠ gb116)); have n14_ := Aside0.mk ((by rw [hg]; exact Nat.ne_of_gt (blk_lt (g := gb109) (o := .cells #[.int .i64 t103, .string t104, .string t105, .slice Ao20 t106.length co20] 24 (0, 0)) (by (with_reducible repeat (first | refine blk_drewN ?_ _ | refine blk_drew ?_ | refine blk_alloc ?_ _)); exact BK109.out)) : gb116 ≠ gb109)); clear HO108; clear HO115; clear BK111; clear BK101; clear BK109; clear HB; have HO108 := n0_; have HO115 := n1_; have BK111 := n2_; have BK101 := n3_; have BK109 := n4_; have HB := n5_; have BK116 := n6_; have GW116 := n7_; have GE116 := n8_; have NB111_116 := n9_; have NB116_111 := n10_; have NB101_116 := n11_; have NB116_101 := n12_; have NB109_116 := n13_; have NB116_109 := n14_; clear n0_ n1_ n2_ n3_ n4_ n5_ n6_ n7_ n8_ n9_ n10_ n11_ n12_ n13_ n14_; clear hb hbox hg; have hnb24 := NB116_111.out; have hnc24 := NB111_116.out; have hnb25 := NB116_101.out; have hnc25 := NB101_116.out; have hnb26 := NB116_109.out; have hnc26 := NB109_116.out; have hcz27_0 : w23.cell? ⟨gb116, 0, none⟩ = some (.int .i64 0) := (blk_cell BK116.out 0).trans rfl; have hcz27_1 : w23.cell? ⟨gb116, 1, none⟩ = some (.string (⟨#[]⟩ : ByteArray)) := (blk_cell BK116.out 1).trans rfl; have hcz27_2 : w23.cell? ⟨gb116, 2, none⟩ = some (.string (⟨#[]⟩ : ByteArray)) := (blk_cell BK116.out 2).trans rfl; have hcz27_3 : w23.cell? ⟨gb116, 3, none⟩ = some (.slice none 0 0) := (blk_cell BK116.out 3).trans rfl; have hfz27_0 := blk_frozen BK116.out 0; have hfz27_1 := blk_frozen BK116.out 1; have hfz27_2 := blk_frozen BK116.out 2; have hfz27_3 := blk_frozen BK116.out 3; obtain ⟨Ao28, co28, eo28⟩ := Kd.V_slice HO115.out; subst eo28))
            have n0_ : Aside0 (Kd.V k24 24 ((((w23.setCell ⟨gb116, 0, none⟩ (.int .i64 t110)).setCell ⟨gb116, 1, none⟩ (.string t111)).setCell ⟨gb116, 2, none⟩ (.string t112)).setCell ⟨gb116, 3, none⟩ (.slice Ao28 t113.length co28)) wt.heap.size (fun k_ => k_ ≠ gb111 ∧ k_ ≠ gb101 ∧ k_ ≠ gb109 ∧ k_ ≠ gb116) (.slice Ao20 t106.length co20) t106) := ⟨by (with_reducible repeat (first | apply Kd.V_alloc | apply Kd.V_drewN | apply Kd.V_drew)); exact Kd.V_mono (Kd.V_far (p := ⟨gb116, 3, none⟩) (Kd.V_far (p := ⟨gb116, 2, none⟩) (Kd.V_far (p := ⟨gb116, 1, none⟩) (Kd.V_far (p := ⟨gb116, 0, none⟩) (Kd.V_mono HO108.out (fun k_ hk => (⟨hk, hk.2⟩ : _ ∧ k_ ≠ gb116))) (fun _ hk => hk.2) (.int .i64 t110)) (fun _ hk => hk.2) (.string t111)) (fun _ hk => hk.2) (.string t112)) (fun _ hk => hk.2) (.slice Ao28 t113.length co28)) (fun _ hk => ⟨hk.1.1.1.1, ⟨hk.1.1.1.2, ⟨hk.1.1.2, hk.1.2⟩⟩⟩)⟩
            have n1_ : Aside0 (Kd.V k24 24 ((((w23.setCell ⟨gb116, 0, none⟩ (.int .i64 t110)).setCell ⟨gb116, 1, none⟩ (.string t111)).setCell ⟨gb116, 2, none⟩ (.string t112)).setCell ⟨gb116, 3, none⟩ (.slice Ao28 t113.length co28)) wt.heap.size (fun k_ => k_ ≠ gb111 ∧ k_ ≠ gb101 ∧ (k_ ≠ gb109 ∧ wt.heap.size ≤ k_) ∧ k_ ≠ gb116) (.slice Ao28 t113.length co28) t113) := ⟨by (with_reducible repeat (first | apply Kd.V_alloc | apply Kd.V_drewN | apply Kd.V_drew)); exact Kd.V_mono (Kd.V_far (p := ⟨gb116, 3, none⟩) (Kd.V_far (p := ⟨gb116, 2, none⟩) (Kd.V_far (p := ⟨gb116, 1, none⟩) (Kd.V_far (p := ⟨gb116, 0, none⟩) (Kd.V_mono HO115.out (fun k_ hk => (⟨hk, hk.2⟩ : _ ∧ k_ ≠ gb116))) (fun _ hk => hk.2) (.int .i64 t110)) (fun _ hk => hk.2) (.string t111)) (fun _ hk => hk.2) (.string t112)) (fun _ hk => hk.2) (.slice Ao28 t113.length co28)) (fun _ hk => ⟨hk.1.1.1, ⟨hk.1.1.2.1, ⟨hk.1.1.2.2, hk.1.2⟩⟩⟩)⟩
            have n2_ : Aside0 (((((w23.setCell ⟨gb116, 0, none⟩ (.int .i64 t110)).setCell ⟨gb116, 1, none⟩ (.string t111)).setCell ⟨gb116, 2, none⟩ (.string t112)).setCell ⟨gb116, 3, none⟩ (.slice Ao28 t113.length co28)).heap[gb111]? = some (.cells #[.int .i64 a1_0, .string a1_1, .string a1_2, .slice A1_3 l1_3.length c1_3] 24 (0, 0))) := ⟨by (with_reducible repeat (first | refine blk_drewN ?_ _ | refine blk_drew ?_ | refine blk_alloc ?_ _)); refine blk_far ?_ NB111_116.out _; (with_reducible repeat (first | refine blk_drewN ?_ _ | refine blk_drew ?_ | refine blk_alloc ?_ _)); refine blk_far ?_ NB111_116.out _; (with_reducible repeat (first | refine blk_drewN ?_ _ | refine blk_drew ?_ | refine blk_alloc ?_ _)); refine blk_far ?_ NB111_116.out _; (with_reducible repeat (first | refine blk_drewN ?_ _ | refine blk_drew ?_ | refine blk_alloc ?_ _)); refine blk_far ?_ NB111_116.out _; (with_reducible repeat (first | refine blk_drewN ?_ _ | refine blk_drew ?_ | refine blk_alloc ?_ _)); exact BK111.out⟩
            have n3_ : Aside0 (((((w23.setCell ⟨gb116, 0, none⟩ (.int .i64 t110)).setCell ⟨gb116, 1, none⟩ (.string t111)).setCell ⟨gb116, 2, none⟩ (.string t112)).setCell ⟨gb116, 3, none⟩ (.slice Ao28 t113.length co28)).heap[gb101]? = some (.cells #[.int .i64 a0_0, .string a0_1, .string a0_2, .slice A0_3 l0_3.length c0_3] 24 (0, 0))) := ⟨by (with_reducible repeat (first | refine blk_drewN ?_ _ | refine blk_drew ?_ | refine blk_alloc ?_ _)); refine blk_far ?_ NB101_116.out _; (with_reducible repeat (first | refine blk_drewN ?_ _ | refine blk_drew ?_ | refine blk_alloc ?_ _)); refine blk_far ?_ NB101_116.out _; (with_reducible repeat (first | refine blk_drewN ?_ _ | refine blk_drew ?_ | refine blk_alloc ?_ _)); refine blk_far ?_ NB101_116.out _; (with_reducible repeat (first | refine blk_drewN ?_ _ | refine blk_drew ?_ | refine blk_alloc ?_ _)); refine blk_far ?_ NB101_116.out _; (with_reducible repeat (first | refine blk_drewN ?_ _ | refine blk_drew ?_ | refine blk_alloc ?_ _)); exact BK101.out⟩
            have n4_ : Aside0 (((((w23.setCell ⟨gb116, 0, none⟩ (.int .i64 t110)).setCell ⟨gb116, 1, none⟩ (.string t111)).setCell ⟨gb116, 2, none⟩ (.string t112)).setCell ⟨gb116, 3, none⟩ (.slice Ao28 t113.length co28)).heap[gb109]? = some (.cells #[.int .i64 t103, .string t104, .string t105, .slice Ao20 t106.length co20] 24 (0, 0))) := ⟨by (with_reducible repeat (first | refine blk_drewN ?_ _ | refine blk_drew ?_ | refine blk_alloc ?_ _)); refine blk_far ?_ NB109_116.out _; (with_reducible repeat (first | refine blk_drewN ?_ _ | refine blk_drew ?_ | refine blk_alloc ?_ _)); refine blk_far ?_ NB109_116.out _; (with_reducible repeat (first | refine blk_drewN ?_ _ | refine blk_drew ?_ | refine blk_alloc ?_ _)); refine blk_far ?_ NB109_116.out _; (with_reducible repeat (first | refine blk_drewN ?_ _ | refine blk_drew ?_ | refine blk_alloc ?_ _)); refine blk_far ?_ NB109_116.out _; (with_reducible repeat (first | refine blk_drewN ?_ _ | refine blk_drew ?_ | refine blk_alloc ?_ _)); exact BK109.out⟩
            have n5_ : Aside0 (((((w23.setCell ⟨gb116, 0, none⟩ (.int .i64 t110)).setCell ⟨gb116, 1, none⟩ (.string t111)).setCell ⟨gb116, 2, none⟩ (.string t112)).setCell ⟨gb116, 3, none⟩ (.slice Ao28 t113.length co28)).heap[gb116]? = some (.cells #[.int .i64 t110, .string t111, .string t112, .slice Ao28 t113.length co28] 24 (0, 0))) := ⟨by (with_reducible repeat (first | refine blk_drewN ?_ _ | refine blk_drew ?_ | refine blk_alloc ?_ _)); refine blk_put (cs := #[.int .i64 t110, .string t111, .string t112, .slice none 0 0]) ?_ 3 _ rfl; (with_reducible repeat (first | refine blk_drewN ?_ _ | refine blk_drew ?_ | refine blk_alloc ?_ _)); refine blk_put (cs := #[.int .i64 t110, .string t111, .string (⟨#[]⟩ : ByteArray), .slice none 0 0]) ?_ 2 _ rfl; (with_reducible repeat (first | refine blk_drewN ?_ _ | refine blk_drew ?_ | refine blk_alloc ?_ _)); refine blk_put (cs := #[.int .i64 t110, .string (⟨#[]⟩ : ByteArray), .string (⟨#[]⟩ : ByteArray), .slice none 0 0]) ?_ 1 _ rfl; (with_reducible repeat (first | refine blk_drewN ?_ _ | refine blk_drew ?_ | refine blk_alloc ?_ _)); refine blk_put (cs := #[.int .i64 0, .string (⟨#[]⟩ : ByteArray), .string (⟨#[]⟩ : ByteArray), .slice none 0 0]) ?_ 0 _ rfl; (with_reducible repeat (first | refine blk_drewN ?_ _ | refine blk_drew ?_ | refine blk_alloc ?_ _)); exact BK116.out⟩
            have n6_ : Aside0 (Below wt.heap.size wt ((((w23.setCell ⟨gb116, 0, none⟩ (.int .i64 t110)).setCell ⟨gb116, 1, none⟩ (.string t111)).setCell ⟨gb116, 2, none⟩ (.string t112)).setCell ⟨gb116, 3, none⟩ (.slice Ao28 t113.length co28))) := ⟨by repeat (first | (with_reducible first | exact HB.out | apply below_alloc | apply pw_below_drewN | apply below_drew1 | refine below_set ?_ GE111.out | refine below_set ?_ GE101.out | refine below_set ?_ GE109.out | refine below_set ?_ GE116.out) | exact HB.out)⟩
            (try clear HO108)
            (try clear HO115)
            (try clear BK111)
            (try clear BK101)
            (try clear BK109)
            (try clear BK116)
            (try clear HB)
            generalize ((((w23.setCell ⟨gb116, 0, none⟩ (.int .i64 t110)).setCell ⟨gb116, 1, none⟩ (.string t111)).setCell ⟨gb116, 2, none⟩ (.string t112)).setCell ⟨gb116, 3, none⟩ (.slice Ao28 t113.length co28)) = w29 at n0_ n1_ n2_ n3_ n4_ n5_ n6_ ⊢
            have HO108 := n0_
            have HO115 := n1_
            have BK111 := n2_
            have BK101 := n3_
            have BK109 := n4_
            have BK116 := n5_
            have HB := n6_
            clear n0_ n1_ n2_ n3_ n4_ n5_ n6_
            have n0_ := Aside0.mk (Kd.V_drew HO108.out)
            have n1_ := Aside0.mk (Kd.V_drew HO115.out)
            have n2_ := Aside0.mk (blk_drew BK111.out)
            have n3_ := Aside0.mk (blk_drew BK101.out)
            have n4_ := Aside0.mk (blk_drew BK109.out)
            have n5_ := Aside0.mk (blk_drew BK116.out)
            have n6_ := Aside0.mk (below_drew1 HB.out)
            clear HO108
            clear HO115
            clear BK111
            clear BK101
            clear BK109
            clear BK116
            clear HB
            have HO108 := n0_
            have HO115 := n1_
            have BK111 := n2_
            have BK101 := n3_
            have BK109 := n4_
            have BK116 := n5_
            have HB := n6_
            clear n0_ n1_ n2_ n3_ n4_ n5_ n6_
            refine start_ (n := 12) (S := fun w' => w'.cell? ⟨gb109, 0, none⟩ = some (.int .i64 t103) ∧ w'.cell? ⟨gb109, 1, none⟩ = some (.string t104) ∧ w'.cell? ⟨gb109, 2, none⟩ = some (.string t105) ∧ w'.cell? ⟨gb109, 3, none⟩ = some (.slice Ao20 t106.length co20) ∧ w'.cell? ⟨gb101, 0, none⟩ = some (.int .i64 a0_0) ∧ w'.cell? ⟨gb101, 1, none⟩ = some (.string a0_1) ∧ w'.cell? ⟨gb101, 2, none⟩ = some (.string a0_2) ∧ w'.cell? ⟨gb101, 3, none⟩ = some (.slice A0_3 l0_3.length c0_3) ∧ w'.cell? ⟨gb111, 0, none⟩ = some (.int .i64 a1_0) ∧ w'.cell? ⟨gb111, 1, none⟩ = some (.string a1_1) ∧ w'.cell? ⟨gb111, 2, none⟩ = some (.string a1_2) ∧ w'.cell? ⟨gb111, 3, none⟩ = some (.slice A1_3 l1_3.length c1_3)) (ds := []) #[false, false, false, false, false, false, false, false, false, false, false, false] (by kernel_rfl) rfl rfl ⟨(blk_cell BK109.out 0).trans rfl, (blk_cell BK109.out 1).trans rfl, (blk_cell BK109.out 2).trans rfl, (blk_cell BK109.out 3).trans rfl, (blk_cell BK101.out 0).trans rfl, (blk_cell BK101.out 1).trans rfl, (blk_cell BK101.out 2).trans rfl, (blk_cell BK101.out 3).trans rfl, (blk_cell BK111.out 0).trans rfl, (blk_cell BK111.out 1).trans rfl, (blk_cell BK111.out 2).trans rfl, (blk_cell BK111.out 3).trans rfl⟩ (fun hHeld => ?_); refine with_tabW maps_tail.tab6 maps_tail.bits6 (fun HT_ HW_ => ?_)
            generalize w29.drew = w30 at HO108 HO115 BK111 BK101 BK109 BK116 HB hHeld ⊢
            refine take_ (i := 0) (N := some 21) (v := ?_) (a' := ?_) #[true, false, false, false, false, false, false, false, false, false, false, false] rfl rfl (take_ofW HT_.out HW_.out (by kernel_rfl)) (fun _ _ _ h => h) (Or.inl ⟨by rfl, ?_⟩) hHeld ?_ ?_
            rotate_left
            · rintro w' ⟨s0, s1, s2, s3, s4, s5, s6, s7, s8, s9, s10, s11⟩
              go_simp
              with_reducible rfl
            rotate_left
            · simp only [Act.put, List.setIfInBounds_toArray, List.set_cons_zero, List.set_cons_succ, i64_w, i32_w]
              rfl
            refine take_ (i := 1) (N := some 22) (v := ?_) (a' := ?_) #[true, true, false, false, false, false, false, false, false, false, false, false] rfl rfl (take_ofW HT_.out HW_.out (by kernel_rfl)) (fun _ _ _ h => h) (Or.inl ⟨by rfl, ?_⟩) hHeld ?_ ?_
            rotate_left
            · rintro w' ⟨s0, s1, s2, s3, s4, s5, s6, s7, s8, s9, s10, s11⟩
              go_simp
              with_reducible rfl
            rotate_left
            · simp only [Act.put, List.setIfInBounds_toArray, List.set_cons_zero, List.set_cons_succ, i64_w, i32_w]
              rfl
            refine one_ (i := 2) (N := some 23) #[true, true, true, false, false, false, false, false, false, false, false, false] rfl rfl (one_of HT_.out (by kernel_rfl)) (by decide) (fun K hK => ?_)
            refine goes_ Tryd.func30 (by kernel_rfl) rfl #[.agg #[.int .i64 a0_0, .string a0_1, .string a0_2, .slice A0_3 l0_3.length c0_3]] (by rfl) rfl rfl (by (try simp only [List.map_toArray, List.map_cons, List.map_nil]); first | done | rfl | (simp only [List.length_drop, List.length_take]; rfl)) ?_
            with_reducible refine (vestrylaw10_marked.calls kj1 a0_0 a0_1 a0_2 (fun k_ => k_ < w.heap.size) _ _ l0_3 t117 t118 t119 t120 _ ?side1 A5.out).mono ?_
            (case side1 => exact Kd.V_mk HC0_3.out (Kd.F_below (Kd.F_below (Kd.C_F k24_heap HR0_3.out) HBW.out) (by repeat (first | (with_reducible first | exact HB.out | apply below_alloc | apply pw_below_drewN | apply below_drew1 | refine below_set ?_ GE111.out | refine below_set ?_ GE101.out | refine below_set ?_ GE109.out | refine below_set ?_ GE116.out) | exact HB.out))))
            rintro e w31 ⟨v121, rfl, ho0, hb⟩
            refine ⟨_, rfl, ?_⟩
            have n0_ := Aside0.mk (Kd.V_below (by (with_reducible repeat (first | apply Kd.V_alloc | apply Kd.V_drewN | apply Kd.V_drew)); exact HO108.out) hb)
            have n1_ := Aside0.mk (Kd.V_below (by (with_reducible repeat (first | apply Kd.V_alloc | apply Kd.V_drewN | apply Kd.V_drew)); exact HO115.out) hb)
            have n2_ := Aside0.mk (Kd.V_lower (Kd.V_mono (ok' := fun k_ => k_ ≠ gb111 ∧ k_ ≠ gb101 ∧ k_ ≠ gb109 ∧ k_ ≠ gb116) ho0 (fun k_ hk_ => ⟨Or.elim hk_ (fun hs_ => fun e_ => Nat.not_le.2 hs_ (by rw [e_]; exact GW111.out)) (fun hn_ => (Kd.freshB (g := gb111) (o := .cells #[.int .i64 a1_0, .string a1_1, .string a1_2, .slice A1_3 l1_3.length c1_3] 24 (0, 0)) (by (with_reducible repeat (first | refine blk_drewN ?_ _ | refine blk_drew ?_ | refine blk_alloc ?_ _)); exact BK111.out) k_ hn_)), Or.elim hk_ (fun hs_ => fun e_ => Nat.not_le.2 hs_ (by rw [e_]; exact GW101.out)) (fun hn_ => (Kd.freshB (g := gb101) (o := .cells #[.int .i64 a0_0, .string a0_1, .string a0_2, .slice A0_3 l0_3.length c0_3] 24 (0, 0)) (by (with_reducible repeat (first | refine blk_drewN ?_ _ | refine blk_drew ?_ | refine blk_alloc ?_ _)); exact BK101.out) k_ hn_)), Or.elim hk_ (fun hs_ => fun e_ => Nat.not_le.2 hs_ (by rw [e_]; exact Nat.le_trans (below_size HBW.out) GW109.out)) (fun hn_ => (Kd.freshB (g := gb109) (o := .cells #[.int .i64 t103, .string t104, .string t105, .slice Ao20 t106.length co20] 24 (0, 0)) (by (with_reducible repeat (first | refine blk_drewN ?_ _ | refine blk_drew ?_ | refine blk_alloc ?_ _)); exact BK109.out) k_ hn_)), Or.elim hk_ (fun hs_ => fun e_ => Nat.not_le.2 hs_ (by rw [e_]; exact Nat.le_trans (below_size HBW.out) GW116.out)) (fun hn_ => (Kd.freshB (g := gb116) (o := .cells #[.int .i64 t110, .string t111, .string t112, .slice Ao28 t113.length co28] 24 (0, 0)) (by (with_reducible repeat (first | refine blk_drewN ?_ _ | refine blk_drew ?_ | refine blk_alloc ?_ _)); exact BK116.out) k_ hn_))⟩)) (below_size (by repeat (first | (with_reducible first | exact HB.out | apply below_alloc | apply pw_below_drewN | apply below_drew1 | refine below_set ?_ GE111.out | refine below_set ?_ GE101.out | refine below_set ?_ GE109.out | refine below_set ?_ GE116.out) | exact HB.out))))
            have n3_ := Aside0.mk (blk_below (g := gb111) (o := .cells #[.int .i64 a1_0, .string a1_1, .string a1_2, .slice A1_3 l1_3.length c1_3] 24 (0, 0)) (by (with_reducible repeat (first | refine blk_drewN ?_ _ | refine blk_drew ?_ | refine blk_alloc ?_ _)); exact BK111.out) hb)
            have n4_ := Aside0.mk (blk_below (g := gb101) (o := .cells #[.int .i64 a0_0, .string a0_1, .string a0_2, .slice A0_3 l0_3.length c0_3] 24 (0, 0)) (by (with_reducible repeat (first | refine blk_drewN ?_ _ | refine blk_drew ?_ | refine blk_alloc ?_ _)); exact BK101.out) hb)
            have n5_ := Aside0.mk (blk_below (g := gb109) (o := .cells #[.int .i64 t103, .string t104, .string t105, .slice Ao20 t106.length co20] 24 (0, 0)) (by (with_reducible repeat (first | refine blk_drewN ?_ _ | refine blk_drew ?_ | refine blk_alloc ?_ _)); exact BK109.out) hb)
            have n6_ := Aside0.mk (blk_below (g := gb116) (o := .cells #[.int .i64 t110, .string t111, .string t112, .slice Ao28 t113.length co28] 24 (0, 0)) (by (with_reducible repeat (first | refine blk_drewN ?_ _ | refine blk_drew ?_ | refine blk_alloc ?_ _)); exact BK116.out) hb)
            have n7_ := Aside0.mk (below_step (by repeat (first | (with_reducible first | exact HB.out | apply below_alloc | apply pw_below_drewN | apply below_drew1 | refine below_set ?_ GE111.out | refine below_set ?_ GE101.out | refine below_set ?_ GE109.out | refine below_set ?_ GE116.out) | exact HB.out)) hb)
            clear HO108
            clear HO115
            clear BK111
            clear BK101
            clear BK109
            clear BK116
            clear HB
            have HO108 := n0_
            have HO115 := n1_
            have HO122 := n2_
            have BK111 := n3_
            have BK101 := n4_
            have BK109 := n5_
            have BK116 := n6_
            have HB := n7_
            clear n0_ n1_ n2_ n3_ n4_ n5_ n6_ n7_
            (try clear hb)
            (try clear hb2)
            (try clear hk)
            (try clear hi)
            (try clear ho0)
            obtain ⟨Ao32, co32, eo32⟩ := Kd.V_slice HO122.out
            (first | subst eo32 | (injection eo32 with f1_ f2_ f3_; have f4_ := f1_.symm; have f5_ := f3_.symm; clear f1_ f2_ f3_; subst f4_; subst f5_))
            refine hK.out _ _ ⟨(blk_cell BK109.out 0).trans rfl, (blk_cell BK109.out 1).trans rfl, (blk_cell BK109.out 2).trans rfl, (blk_cell BK109.out 3).trans rfl, (blk_cell BK101.out 0).trans rfl, (blk_cell BK101.out 1).trans rfl, (blk_cell BK101.out 2).trans rfl, (blk_cell BK101.out 3).trans rfl, (blk_cell BK111.out 0).trans rfl, (blk_cell BK111.out 1).trans rfl, (blk_cell BK111.out 2).trans rfl, (blk_cell BK111.out 3).trans rfl⟩ (fun hHeld => ?_)
            clear hK K
            refine norm_ (a' := ?_) ?_ ?_
            rotate_left
            · show Act.put _ (some 23) _ = _
              simp only [Act.put, List.setIfInBounds_toArray, List.set_cons_zero, List.set_cons_succ, i64_w, i32_w]
              rfl
            refine one_ (i := 3) (N := some 24) #[true, true, true, true, false, false, false, false, false, false, false, false] rfl rfl (one_of HT_.out (by kernel_rfl)) (by decide) (fun K hK => ?_)
            refine goes_ Tryd.func22 (by kernel_rfl) rfl #[.agg #[.int .i64 t103, .string t104, .string t105, .slice Ao20 t106.length co20], .agg #[.int .i64 t117, .string t118, .string t119, .slice Ao32 t120.length co32]] (by rfl) rfl rfl (by (try simp only [List.map_toArray, List.map_cons, List.map_nil]); first | done | rfl | (simp only [List.length_drop, List.length_take]; rfl)) ?_
            with_reducible refine (vestryref10_Compare.calls kj1 t103 t104 t105 _ _ t106 t117 t118 t119 _ _ t120 t123 _ ?side1 ?side2 ?side3 ?side4 A6.out).mono ?_
            (case side1 => repeat (first | exact (Kd.V_reads' HO108.out).2.2 | (with_reducible refine Kd.C_alloc ?_ _) | (with_reducible refine Kd.C_drewN ?_ _) | (with_reducible refine Kd.C_drew ?_)))
            (case side2 => exact (Kd.V_reads' HO108.out).2.1)
            (case side3 => repeat (first | exact (Kd.V_reads' HO122.out).2.2 | (with_reducible refine Kd.C_alloc ?_ _) | (with_reducible refine Kd.C_drewN ?_ _) | (with_reducible refine Kd.C_drew ?_)))
            (case side4 => exact (Kd.V_reads' HO122.out).2.1)
            rintro e w33 ⟨rfl, hb⟩
            refine ⟨_, rfl, ?_⟩
            have n0_ := Aside0.mk (Kd.V_below (by (with_reducible repeat (first | apply Kd.V_alloc | apply Kd.V_drewN | apply Kd.V_drew)); exact HO108.out) hb)
            have n1_ := Aside0.mk (Kd.V_below (by (with_reducible repeat (first | apply Kd.V_alloc | apply Kd.V_drewN | apply Kd.V_drew)); exact HO115.out) hb)
            have n2_ := Aside0.mk (Kd.V_below (by (with_reducible repeat (first | apply Kd.V_alloc | apply Kd.V_drewN | apply Kd.V_drew)); exact HO122.out) hb)
            have n3_ := Aside0.mk (blk_below (g := gb111) (o := .cells #[.int .i64 a1_0, .string a1_1, .string a1_2, .slice A1_3 l1_3.length c1_3] 24 (0, 0)) (by (with_reducible repeat (first | refine blk_drewN ?_ _ | refine blk_drew ?_ | refine blk_alloc ?_ _)); exact BK111.out) hb)
            have n4_ := Aside0.mk (blk_below (g := gb101) (o := .cells #[.int .i64 a0_0, .string a0_1, .string a0_2, .slice A0_3 l0_3.length c0_3] 24 (0, 0)) (by (with_reducible repeat (first | refine blk_drewN ?_ _ | refine blk_drew ?_ | refine blk_alloc ?_ _)); exact BK101.out) hb)
            have n5_ := Aside0.mk (blk_below (g := gb109) (o := .cells #[.int .i64 t103, .string t104, .string t105, .slice Ao20 t106.length co20] 24 (0, 0)) (by (with_reducible repeat (first | refine blk_drewN ?_ _ | refine blk_drew ?_ | refine blk_alloc ?_ _)); exact BK109.out) hb)
            have n6_ := Aside0.mk (blk_below (g := gb116) (o := .cells #[.int .i64 t110, .string t111, .string t112, .slice Ao28 t113.length co28] 24 (0, 0)) (by (with_reducible repeat (first | refine blk_drewN ?_ _ | refine blk_drew ?_ | refine blk_alloc ?_ _)); exact BK116.out) hb)
            have n7_ := Aside0.mk (below_step (by repeat (first | (with_reducible first | exact HB.out | apply below_alloc | apply pw_below_drewN | apply below_drew1 | refine below_set ?_ GE111.out | refine below_set ?_ GE101.out | refine below_set ?_ GE109.out | refine below_set ?_ GE116.out) | exact HB.out)) hb)
            clear HO108
            clear HO115
            clear HO122
            clear BK111
            clear BK101
            clear BK109
            clear BK116
            clear HB
            have HO108 := n0_
            have HO115 := n1_
            have HO122 := n2_
            have BK111 := n3_
            have BK101 := n4_
            have BK109 := n5_
            have BK116 := n6_
            have HB := n7_
            clear n0_ n1_ n2_ n3_ n4_ n5_ n6_ n7_
            (try clear hb)
            (try clear hb2)
            (try clear hk)
            (try clear hi)
            refine hK.out _ _ ⟨(blk_cell BK109.out 0).trans rfl, (blk_cell BK109.out 1).trans rfl, (blk_cell BK109.out 2).trans rfl, (blk_cell BK109.out 3).trans rfl, (blk_cell BK101.out 0).trans rfl, (blk_cell BK101.out 1).trans rfl, (blk_cell BK101.out 2).trans rfl, (blk_cell BK101.out 3).trans rfl, (blk_cell BK111.out 0).trans rfl, (blk_cell BK111.out 1).trans rfl, (blk_cell BK111.out 2).trans rfl, (blk_cell BK111.out 3).trans rfl⟩ (fun hHeld => ?_)
            clear hK K
            refine norm_ (a' := ?_) ?_ ?_
            rotate_left
            · show Act.put _ (some 24) _ = _
              simp only [Act.put, List.setIfInBounds_toArray, List.set_cons_zero, List.set_cons_succ, i64_w, i32_w]
              rfl
            refine pure_ (i := 4) (N := some 25) (v := ?_) (a' := ?_) #[true, true, true, true, true, false, false, false, false, false, false, false] rfl rfl (any_of HT_.out (by kernel_rfl)) (fun _ _ _ h => h) (Or.inl ⟨by rfl, ?_⟩) ?_ ?_
            rotate_left
            · intro w'
              go_simp
              with_reducible rfl
            rotate_left
            · simp only [Act.put, List.setIfInBounds_toArray, List.set_cons_zero, List.set_cons_succ, i64_w, i32_w]
              rfl
            refine pure_ (i := 5) (N := some 26) (v := ?_) (a' := ?_) #[true, true, true, true, true, true, false, false, false, false, false, false] rfl rfl (any_of HT_.out (by kernel_rfl)) (fun _ _ _ h => h) (Or.inl ⟨by rfl, ?_⟩) ?_ ?_
            rotate_left
            · intro w'
              go_simp
              with_reducible rfl
            rotate_left
            · simp only [Act.put, List.setIfInBounds_toArray, List.set_cons_zero, List.set_cons_succ, i64_w, i32_w]
              rfl
            refine take_ (i := 6) (N := some 27) (v := ?_) (a' := ?_) #[true, true, true, true, true, true, true, false, false, false, false, false] rfl rfl (take_ofW HT_.out HW_.out (by kernel_rfl)) (fun _ _ _ h => h) (Or.inl ⟨by rfl, ?_⟩) hHeld ?_ ?_
            rotate_left
            · rintro w' ⟨s0, s1, s2, s3, s4, s5, s6, s7, s8, s9, s10, s11⟩
              go_simp
              with_reducible rfl
            rotate_left
            · simp only [Act.put, List.setIfInBounds_toArray, List.set_cons_zero, List.set_cons_succ, i64_w, i32_w]
              rfl
            refine take_ (i := 7) (N := some 28) (v := ?_) (a' := ?_) #[true, true, true, true, true, true, true, true, false, false, false, false] rfl rfl (take_ofW HT_.out HW_.out (by kernel_rfl)) (fun _ _ _ h => h) (Or.inl ⟨by rfl, ?_⟩) hHeld ?_ ?_
            rotate_left
            · rintro w' ⟨s0, s1, s2, s3, s4, s5, s6, s7, s8, s9, s10, s11⟩
              go_simp
              with_reducible rfl
            rotate_left
            · simp only [Act.put, List.setIfInBounds_toArray, List.set_cons_zero, List.set_cons_succ, i64_w, i32_w]
              rfl
            refine one_ (i := 8) (N := some 29) #[true, true, true, true, true, true, true, true, true, false, false, false] rfl rfl (one_of HT_.out (by kernel_rfl)) (by decide) (fun K hK => ?_)
            refine goes_ Tryd.func22 (by kernel_rfl) rfl #[.agg #[.int .i64 a1_0, .string a1_1, .string a1_2, .slice A1_3 l1_3.length c1_3], .agg #[.int .i64 a0_0, .string a0_1, .string a0_2, .slice A0_3 l0_3.length c0_3]] (by rfl) rfl rfl (by (try simp only [List.map_toArray, List.map_cons, List.map_nil]); first | done | rfl | (simp only [List.length_drop, List.length_take]; rfl)) ?_
            with_reducible refine (vestryref10_Compare.calls kj1 a1_0 a1_1 a1_2 _ _ l1_3 a0_0 a0_1 a0_2 _ _ l0_3 t124 _ ?side1 ?side2 ?side3 ?side4 A8.out).mono ?_
            (case side1 => repeat (first | exact (Kd.C_below HR1_3.out HB.out) | (with_reducible refine Kd.C_alloc ?_ _) | (with_reducible refine Kd.C_drewN ?_ _) | (with_reducible refine Kd.C_drew ?_)))
            (case side2 => exact HC1_3.out)
            (case side3 => repeat (first | exact (Kd.C_below (Kd.C_below HR0_3.out HBW.out) HB.out) | (with_reducible refine Kd.C_alloc ?_ _) | (with_reducible refine Kd.C_drewN ?_ _) | (with_reducible refine Kd.C_drew ?_)))
            (case side4 => exact HC0_3.out)
            rintro e w34 ⟨rfl, hb⟩
            refine ⟨_, rfl, ?_⟩
            have n0_ := Aside0.mk (Kd.V_below (by (with_reducible repeat (first | apply Kd.V_alloc | apply Kd.V_drewN | apply Kd.V_drew)); exact HO108.out) hb)
            have n1_ := Aside0.mk (Kd.V_below (by (with_reducible repeat (first | apply Kd.V_alloc | apply Kd.V_drewN | apply Kd.V_drew)); exact HO115.out) hb)
            have n2_ := Aside0.mk (Kd.V_below (by (with_reducible repeat (first | apply Kd.V_alloc | apply Kd.V_drewN | apply Kd.V_drew)); exact HO122.out) hb)
            have n3_ := Aside0.mk (blk_below (g := gb111) (o := .cells #[.int .i64 a1_0, .string a1_1, .string a1_2, .slice A1_3 l1_3.length c1_3] 24 (0, 0)) (by (with_reducible repeat (first | refine blk_drewN ?_ _ | refine blk_drew ?_ | refine blk_alloc ?_ _)); exact BK111.out) hb)
            have n4_ := Aside0.mk (blk_below (g := gb101) (o := .cells #[.int .i64 a0_0, .string a0_1, .string a0_2, .slice A0_3 l0_3.length c0_3] 24 (0, 0)) (by (with_reducible repeat (first | refine blk_drewN ?_ _ | refine blk_drew ?_ | refine blk_alloc ?_ _)); exact BK101.out) hb)
            have n5_ := Aside0.mk (blk_below (g := gb109) (o := .cells #[.int .i64 t103, .string t104, .string t105, .slice Ao20 t106.length co20] 24 (0, 0)) (by (with_reducible repeat (first | refine blk_drewN ?_ _ | refine blk_drew ?_ | refine blk_alloc ?_ _)); exact BK109.out) hb)
            have n6_ := Aside0.mk (blk_below (g := gb116) (o := .cells #[.int .i64 t110, .string t111, .string t112, .slice Ao28 t113.length co28] 24 (0, 0)) (by (with_reducible repeat (first | refine blk_drewN ?_ _ | refine blk_drew ?_ | refine blk_alloc ?_ _)); exact BK116.out) hb)
            have n7_ := Aside0.mk (below_step (by repeat (first | (with_reducible first | exact HB.out | apply below_alloc | apply pw_below_drewN | apply below_drew1 | refine below_set ?_ GE111.out | refine below_set ?_ GE101.out | refine below_set ?_ GE109.out | refine below_set ?_ GE116.out) | exact HB.out)) hb)
            clear HO108
            clear HO115
            clear HO122
            clear BK111
            clear BK101
            clear BK109
            clear BK116
            clear HB
            have HO108 := n0_
            have HO115 := n1_
            have HO122 := n2_
            have BK111 := n3_
            have BK101 := n4_
            have BK109 := n5_
            have BK116 := n6_
            have HB := n7_
            clear n0_ n1_ n2_ n3_ n4_ n5_ n6_ n7_
            (try clear hb)
            (try clear hb2)
            (try clear hk)
            (try clear hi)
            refine hK.out _ _ ⟨(blk_cell BK109.out 0).trans rfl, (blk_cell BK109.out 1).trans rfl, (blk_cell BK109.out 2).trans rfl, (blk_cell BK109.out 3).trans rfl, (blk_cell BK101.out 0).trans rfl, (blk_cell BK101.out 1).trans rfl, (blk_cell BK101.out 2).trans rfl, (blk_cell BK101.out 3).trans rfl, (blk_cell BK111.out 0).trans rfl, (blk_cell BK111.out 1).trans rfl, (blk_cell BK111.out 2).trans rfl, (blk_cell BK111.out 3).trans rfl⟩ (fun hHeld => ?_)
            clear hK K
            refine norm_ (a' := ?_) ?_ ?_
            rotate_left
            · show Act.put _ (some 29) _ = _
              simp only [Act.put, List.setIfInBounds_toArray, List.set_cons_zero, List.set_cons_succ, i64_w, i32_w]
              rfl
            refine pure_ (i := 9) (N := some 30) (v := ?_) (a' := ?_) #[true, true, true, true, true, true, true, true, true, true, false, false] rfl rfl (any_of HT_.out (by kernel_rfl)) (fun _ _ _ h => h) (Or.inl ⟨by rfl, ?_⟩) ?_ ?_
            rotate_left
            · intro w'
              go_simp
              with_reducible rfl
            rotate_left
            · simp only [Act.put, List.setIfInBounds_toArray, List.set_cons_zero, List.set_cons_succ, i64_w, i32_w]
              rfl
            refine pure_ (i := 10) (N := some 31) (v := ?_) (a' := ?_) #[true, true, true, true, true, true, true, true, true, true, true, false] rfl rfl (any_of HT_.out (by kernel_rfl)) (fun _ _ _ h => h) (Or.inl ⟨by rfl, ?_⟩) ?_ ?_
            rotate_left
            · intro w'
              go_simp
              with_reducible rfl
            rotate_left
            · simp only [Act.put, List.setIfInBounds_toArray, List.set_cons_zero, List.set_cons_succ, i64_w, i32_w]
              rfl
            refine pure_ (i := 11) (N := some 6) (v := ?_) (a' := ?_) #[true, true, true, true, true, true, true, true, true, true, true, true] rfl rfl (any_of HT_.out (by kernel_rfl)) (fun _ _ _ h => h) (Or.inl ⟨by rfl, ?_⟩) ?_ ?_
            rotate_left
            · intro w'
              go_simp
              with_reducible rfl
            rotate_left
            · simp only [Act.put, List.setIfInBounds_toArray, List.set_cons_zero, List.set_cons_succ, i64_w, i32_w]
              rfl
            refine done_ (done_of HT_.out (by kernel_rfl)) ?_
            have hcz35_0 : w34.cell? ⟨gb111, 0, none⟩ = some (.int .i64 a1_0) := (blk_cell BK111.out 0).trans rfl
            have hcz35_1 : w34.cell? ⟨gb111, 1, none⟩ = some (.string a1_1) := (blk_cell BK111.out 1).trans rfl
            have hcz35_2 : w34.cell? ⟨gb111, 2, none⟩ = some (.string a1_2) := (blk_cell BK111.out 2).trans rfl
            have hcz35_3 : w34.cell? ⟨gb111, 3, none⟩ = some (.slice A1_3 l1_3.length c1_3) := (blk_cell BK111.out 3).trans rfl
            have hfz35_0 := blk_frozen BK111.out 0
            have hfz35_1 := blk_frozen BK111.out 1
            have hfz35_2 := blk_frozen BK111.out 2
            have hfz35_3 := blk_frozen BK111.out 3
            have hcz36_0 : w34.cell? ⟨gb116, 0, none⟩ = some (.int .i64 t110) := (blk_cell BK116.out 0).trans rfl
            have hcz36_1 : w34.cell? ⟨gb116, 1, none⟩ = some (.string t111) := (blk_cell BK116.out 1).trans rfl
            have hcz36_2 : w34.cell? ⟨gb116, 2, none⟩ = some (.string t112) := (blk_cell BK116.out 2).trans rfl
            have hcz36_3 : w34.cell? ⟨gb116, 3, none⟩ = some (.slice Ao28 t113.length co28) := (blk_cell BK116.out 3).trans rfl
            have hfz36_0 := blk_frozen BK116.out 0
            have hfz36_1 := blk_frozen BK116.out 1
            have hfz36_2 := blk_frozen BK116.out 2
            have hfz36_3 := blk_frozen BK116.out 3
            have hcz37_0 : w34.cell? ⟨gb101, 0, none⟩ = some (.int .i64 a0_0) := (blk_cell BK101.out 0).trans rfl
            have hcz37_1 : w34.cell? ⟨gb101, 1, none⟩ = some (.string a0_1) := (blk_cell BK101.out 1).trans rfl
            have hcz37_2 : w34.cell? ⟨gb101, 2, none⟩ = some (.string a0_2) := (blk_cell BK101.out 2).trans rfl
            have hcz37_3 : w34.cell? ⟨gb101, 3, none⟩ = some (.slice A0_3 l0_3.length c0_3) := (blk_cell BK101.out 3).trans rfl
            have hfz37_0 := blk_frozen BK101.out 0
            have hfz37_1 := blk_frozen BK101.out 1
            have hfz37_2 := blk_frozen BK101.out 2
            have hfz37_3 := blk_frozen BK101.out 3
            go_wp2_with (first | (go_at_call 31; (refine (change_calls lo (ZoneOf lo w24) zone_lo (wgt (⟨a1_0, a1_1, a1_2, l1_3⟩ : S24)) (⟨a1_0, a1_1, a1_2, l1_3⟩ : S24) A1_3 c1_3 _ (Nat.le_refl _) ?sF ?sL ?sU ?sB).mono ?_; (case sF => exact Kd.F_below (zone_F HRO.out HX.out) HB.out); (case sL => exact HC1_3.out); (case sU => exact zone_UF HX.out HB.out); (case sB => exact Nat.le_trans (Nat.le_trans HLX.out HX.out.size) HB.out.size); rintro e wE ⟨rfl, hm⟩; have n0_ := Aside0.mk (Kd.V_step HO115.out (fun k_ hk_ hl_ => hm.far k_ hl_ (fun hz_ => Nat.not_lt.2 hk_.2.2.1.2 (zone_lt HX.out k_ hz_)))); have n1_ := Aside0.mk (mod_blk hm (fun hz_ => Nat.not_lt.2 (zone_lo _ hz_) (HE101.out)) BK101.out); have n2_ := Aside0.mk (mod_blk hm (fun hz_ => Nat.not_lt.2 GE116.out (zone_lt HX.out _ hz_)) BK116.out); have n3_ := Aside0.mk (mod_reads hm zone_lo HLO.out HR0_3.out (HBW.out.trans (HB.out.mono (below_size HBW.out)))); have n4_ := Aside0.mk (show Below w.heap.size w wE from (HBW.out.trans (HB.out.mono (below_size HBW.out))).trans (hm.low.mono HLO.out)); clear hm; (try clear HO108); (try clear HO122); (try clear HO121); (try clear HO115); clear BK101; (try clear BK111); (try clear BK109); (try clear BK116); clear HB; have HO115 := n0_; have BK116 := n2_; have BK101 := n1_; have HRE := n3_; have HB := n4_; clear n1_ n3_ n4_ n0_ n2_; have hcyA_0 : wE.cell? ⟨gb116, 0, none⟩ = some (.int .i64 t110) := (blk_cell BK116.out 0).trans rfl; have hcyB_0 : wE.cell? ⟨gb101, 0, none⟩ = some (.int .i64 a0_0) := (blk_cell BK101.out 0).trans rfl; have hcyA_1 : wE.cell? ⟨gb116, 1, none⟩ = some (.string t111) := (blk_cell BK116.out 1).trans rfl; have hcyB_1 : wE.cell? ⟨gb101, 1, none⟩ = some (.string a0_1) := (blk_cell BK101.out 1).trans rfl; have hcyA_2 : wE.cell? ⟨gb116, 2, none⟩ = some (.string t112) := (blk_cell BK116.out 2).trans rfl; have hcyB_2 : wE.cell? ⟨gb101, 2, none⟩ = some (.string a0_2) := (blk_cell BK101.out 2).trans rfl; have hcyA_3 : wE.cell? ⟨gb116, 3, none⟩ = some (.slice Ao28 t113.length co28) := (blk_cell BK116.out 3).trans rfl; have hcyB_3 : wE.cell? ⟨gb101, 3, none⟩ = some (.slice A0_3 l0_3.length c0_3) := (blk_cell BK101.out 3).trans rfl)) | (go_at_call 22; (with_reducible refine (vestryref10_Compare.calls kj1 t110 t111 t112 _ _ t113 a0_0 a0_1 a0_2 _ _ l0_3 t125 _ ?side1 ?side2 ?side3 ?side4 A10.out).mono ?_); (case side1 => exact (Kd.V_reads' HO115.out).2.2); (case side2 => exact (Kd.V_reads' HO115.out).2.1); (case side3 => exact HRE.out); (case side4 => exact HC0_3.out); rintro e wF ⟨rfl, hb⟩; have n0_ := Aside0.mk (below_step HB.out hb); clear HB; have HB := n0_; clear n0_ hb))
            go_ret
            exact ⟨(show Ending.returned (.bool (t125 == 0)) = .returned (.bool true) by rw [HRES.out]), by repeat (first | (with_reducible first | exact HB.out | apply below_alloc | apply pw_below_drewN | apply below_drew1 | refine below_set ?_ GE111.out | refine below_set ?_ GE101.out | refine below_set ?_ GE109.out | refine below_set ?_ GE116.out) | exact HB.out)⟩
          · exact absurd (Option.some.inj ((if_neg c9).symm.trans H)) (by decide)
        · exact absurd (Option.some.inj ((if_neg c7).symm.trans H)) (by decide)end Go.Proofs.YtigghbfcflnoeaaDoor.Y
end
section
namespace Go.Proofs.YtigghbfcflnoeaaDoor.Y
open Go.RowKit Go.Proofs.YtigghbfcflnoeaaDoorW.PrintWords Go.Proofs.YtigghbfcflnoeaaDoorW.PrintLast Go.Proofs.YtigghbfcflnoeaaDoorW.PrintMore
attribute [local go_sem] max2_int min2_int max_two min_two max_three min_three max_four min_four
set_option linter.unusedVariables false
set_option linter.unusedSimpArgs false
def cntT (y : S24) : S24 := if 0 < y.f3.length then ⟨y.f0, y.f1, y.f2 ++ ⟨#[120]⟩, y.f3⟩ else ⟨wrap64 (y.f0 + 10), y.f1, y.f2, y.f3⟩
def mkE : S24 → S24
  | ⟨a, b, c, l⟩ => cntT ⟨a, b, c, mkL l⟩
where mkL : List S24 → List S24
  | [] => []
  | x :: xs => mkE x :: mkL xs
theorem mkL_map (l : List S24) : mkE.mkL l = l.map mkE := by
  induction l with
  | nil => rw [mkE.mkL]; rfl
  | cons x xs ih => rw [mkE.mkL, ih]; rfl
theorem mkE_eq (x : S24) : mkE x = cntT ⟨x.f0, x.f1, x.f2, x.f3.map mkE⟩ := by
  cases x
  rw [mkE, mkL_map]
theorem count_f (y : S24) (h : y.f2.size ≤ 1000000000) : vestrylaw10_count.f y.f0 y.f1 y.f2 y.f3 = some ((cntT y).f0, (cntT y).f1, (cntT y).f2, (cntT y).f3) := by
  unfold vestrylaw10_count.f cntT
  by_cases h1 : 0 < y.f3.length
  · rw [if_pos (by omega), if_pos (by omega), if_pos h1]
  · rw [if_neg (by omega), if_neg h1]
theorem mk_bd : ∀ x : S24, wgt x ≤ 1000000 → bdB (mkE x) := by
  intro x
  induction x using S24.ind with
  | h x ih =>
    intro hw
    have hwe := wgt_eq x
    have hlen := wgtL_len x.f3
    have hk : ∀ y ∈ x.f3.map mkE, bdB y := by
      intro y hy
      obtain ⟨z, hz, rfl⟩ := List.mem_map.1 hy
      have := wgtL_mem hz
      exact ih z hz (by omega)
    rw [mkE_eq, bdB_eq]
    unfold cntT
    split
    · refine ⟨?_, ?_, ?_, hk⟩
      · show x.f1.size ≤ _; omega
      · show (x.f2 ++ (⟨#[120]⟩ : ByteArray)).size ≤ _
        rw [ByteArray.size_append, show (⟨#[120]⟩ : ByteArray).size = 1 from rfl]; omega
      · show (x.f3.map mkE).length ≤ _
        rw [List.length_map]; omega
    · refine ⟨?_, ?_, ?_, hk⟩
      · show x.f1.size ≤ _; omega
      · show x.f2.size ≤ _; omega
      · show (x.f3.map mkE).length ≤ _
        rw [List.length_map]; omega
theorem S24.eta' (x : S24) : (⟨x.f0, x.f1, x.f2, x.f3⟩ : S24) = x := by cases x; rfl
theorem refClone_ev : ∀ x : S24, wgt x ≤ 1000000 → Ev (fun k => vestryref10_Clone.f k x.f0 x.f1 x.f2 x.f3) (x.f0, x.f1, x.f2, x.f3) := by
  intro x
  induction x using S24.ind with
  | h x ih =>
    intro hw
    have hwe := wgt_eq x
    have hlen := wgtL_len x.f3
    have key : ∀ (r i : Nat), x.f3.length - i = r → i ≤ x.f3.length → Ev (fun k => vestryref10_Clone.l0 k (i : Int) x.f0 x.f1 x.f2 x.f3 x.f0 x.f1 x.f2 (x.f3.take i)) (x.f0, x.f1, x.f2, x.f3) := by
      intro r
      induction r with
      | zero =>
        intro i hr hi
        rw [List.take_of_length_le (by omega)]
        refine Ev.step (f := fun _ => some (x.f0, x.f1, x.f2, x.f3)) (fun k => ?_) (Ev.now _)
        rw [vestryref10_Clone.l0, if_neg (by omega)]
      | succ r ihr =>
        intro i hr hi
        have hlt : i < x.f3.length := by omega
        have hm : x.f3[i] ∈ x.f3 := List.getElem_mem hlt
        have hwm := wgtL_mem hm
        have hnext := ihr (i + 1) (by omega) (by omega)
        refine Ev.step (fun k => by rw [vestryref10_Clone.l0, if_pos (by omega), if_pos (by omega), rdT hlt, wrap_ok (x := (i : Int) + 1) (by omega) (by omega)]) (Ev.bind (ih _ hm (by omega)) ?_)
        have ht : (x.f3.take i).length < 2199023255552 := by rw [List.length_take]; omega
        simp only [ht, if_true]
        rw [List.take_succ_eq_append_getElem hlt] at hnext
        rw [S24.eta]
        exact hnext
    have := key x.f3.length 0 (by omega) (by omega)
    rw [List.take_zero] at this
    exact Ev.step (f := fun k => vestryref10_Clone.l0 k ((0 : Nat) : Int) x.f0 x.f1 x.f2 x.f3 x.f0 x.f1 x.f2 []) (fun k => by rw [vestryref10_Clone.f]; rfl) this
theorem map28_ev : ∀ x : S24, wgt x ≤ 1000000 → Ev (fun k => map28.f k x.f0 x.f1 x.f2 x.f3) ((mkE x).f0, (mkE x).f1, (mkE x).f2, (mkE x).f3) := by
  intro x
  induction x using S24.ind with
  | h x ih =>
    intro hw
    have hwe := wgt_eq x
    have hlen := wgtL_len x.f3
    have hc := count_f ⟨x.f0, x.f1, x.f2, x.f3.map mkE⟩ (show x.f2.size ≤ 1000000000 by omega)
    rw [← mkE_eq] at hc
    have key : ∀ (r i : Nat), x.f3.length - i = r → i ≤ x.f3.length → Ev (fun k => map28.l0 k ((x.f3.take i).map mkE) x.f3 (x.f3.length : Int) (i : Int) x.f0 x.f1 x.f2 x.f3) ((mkE x).f0, (mkE x).f1, (mkE x).f2, (mkE x).f3) := by
      intro r
      induction r with
      | zero =>
        intro i hr hi
        rw [List.take_of_length_le (by omega)]
        refine Ev.step (f := fun _ => some ((mkE x).f0, (mkE x).f1, (mkE x).f2, (mkE x).f3)) (fun k => ?_) (Ev.now _)
        rw [map28.l0, if_neg (by omega)]
        rw [hc]
        rfl
      | succ r ihr =>
        intro i hr hi
        have hlt : i < x.f3.length := by omega
        have hm : x.f3[i] ∈ x.f3 := List.getElem_mem hlt
        have hwm := wgtL_mem hm
        have hnext := ihr (i + 1) (by omega) (by omega)
        refine Ev.step (fun k => by rw [map28.l0, if_pos (by omega), if_pos (by omega), if_pos (by omega), rdT hlt, wrap_ok (x := (i : Int) + 1) (by omega) (by omega)]) (Ev.bind (ih _ hm (by omega)) ?_)
        have ht : ((x.f3.take i).map mkE).length < 2199023255552 := by rw [List.length_map, List.length_take]; omega
        simp only [ht, if_true]
        rw [List.take_succ_eq_append_getElem hlt, List.map_append] at hnext
        rw [S24.eta]
        exact hnext
    have := key x.f3.length 0 (by omega) (by omega)
    rw [List.take_zero] at this
    exact Ev.step (f := fun k => map28.l0 k [] x.f3 (x.f3.length : Int) ((0 : Nat) : Int) x.f0 x.f1 x.f2 x.f3) (fun k => by rw [map28.f]; rfl) this
theorem marked_ev : ∀ x : S24, wgt x ≤ 1000000 → Ev (fun k => vestrylaw10_marked.f k x.f0 x.f1 x.f2 x.f3) ((mkE x).f0, (mkE x).f1, (mkE x).f2, (mkE x).f3) := by
  intro x
  induction x using S24.ind with
  | h x ih =>
    intro hw
    have hwe := wgt_eq x
    have hlen := wgtL_len x.f3
    have hc := count_f ⟨x.f0, x.f1, x.f2, x.f3.map mkE⟩ (show x.f2.size ≤ 1000000000 by omega)
    rw [← mkE_eq] at hc
    have key : ∀ (r i : Nat), x.f3.length - i = r → i ≤ x.f3.length → Ev (fun k => vestrylaw10_marked.l0 k (i : Int) x.f0 x.f1 x.f2 ((x.f3.take i).map mkE ++ x.f3.drop i)) ((mkE x).f0, (mkE x).f1, (mkE x).f2, (mkE x).f3) := by
      intro r
      induction r with
      | zero =>
        intro i hr hi
        rw [List.take_of_length_le (by omega), List.drop_eq_nil_of_le (by omega), List.append_nil]
        refine Ev.step (f := fun _ => some ((mkE x).f0, (mkE x).f1, (mkE x).f2, (mkE x).f3)) (fun k => ?_) (Ev.now _)
        rw [vestrylaw10_marked.l0, if_neg (by rw [List.length_map]; omega)]
        rw [hc]
        rfl
      | succ r ihr =>
        intro i hr hi
        have hlt : i < x.f3.length := by omega
        have hm : x.f3[i] ∈ x.f3 := List.getElem_mem hlt
        have hwm := wgtL_mem hm
        have hnext := ihr (i + 1) (by omega) (by omega)
        have hl : ((x.f3.take i).map mkE ++ x.f3.drop i).length = x.f3.length := by simp; omega
        have hlt' : i < ((x.f3.take i).map mkE ++ x.f3.drop i).length := by omega
        have hg : ((x.f3.take i).map mkE ++ x.f3.drop i)[i] = x.f3[i] := by
          rw [List.getElem_append_right (by simp; omega)]
          simp [List.length_take, Nat.min_eq_left (Nat.le_of_lt hlt)]
        refine Ev.step (fun k => by rw [vestrylaw10_marked.l0, if_pos (by omega), if_pos (by omega), rdT hlt', hg, wrap_ok (x := (i : Int) + 1) (by omega) (by omega)]) (Ev.bind (ih _ hm (by omega)) ?_)
        have hs : ((x.f3.take i).map mkE ++ x.f3.drop i).set i (mkE x.f3[i]) = (x.f3.take (i + 1)).map mkE ++ x.f3.drop (i + 1) := by
          rw [List.take_succ_eq_append_getElem hlt, List.map_append, List.drop_eq_getElem_cons hlt, List.set_append_right _ _ (by simp; omega), List.length_map, List.length_take, Nat.min_eq_left (Nat.le_of_lt hlt), Nat.sub_self, List.set_cons_zero, List.append_assoc]
          rfl
        simp only [Int.toNat_natCast]
        rw [S24.eta, hs]
        exact hnext
    have := key x.f3.length 0 (by omega) (by omega)
    rw [List.take_zero, List.drop_zero] at this
    refine Ev.step (f := fun k => (vestryref10_Clone.f k x.f0 x.f1 x.f2 x.f3).bind fun bt103 => (vestrylaw10_marked.l0 k 0 bt103.1 bt103.2.1 bt103.2.2.1 bt103.2.2.2)) (fun k => by rw [vestrylaw10_marked.f]) ?_
    exact Ev.bind (refClone_ev x hw) this
theorem law7_ev (x : S24) (hb : bdB x) : Ev (fun k => vestrylaw10_ExprMaps.f k x.f0 x.f1 x.f2 x.f3) true := by
  unfold vestrylaw10_ExprMaps.f
  refine Ev.bind awake_ev ?_
  refine Ev.yes (rfl) ?_
  refine Ev.bind (few_ev x hb) ?_
  by_cases h : cntE x 0 ≤ 150
  · have hw := few_wgt h
    simp only [h, decide_true, Bool.not_true]
    refine Ev.step (fun k => by rw [vestrylaw10_ExprMaps.j0, if_neg (by simp)]) ?_
    refine Ev.bind (refClone_ev x (by omega)) ?_
    refine Ev.bind (map28_ev x (by omega)) ?_
    refine Ev.bind (Clone_ev x (by omega)) ?_
    refine Ev.bind (marked_ev x (by omega)) ?_
    refine Ev.bind (refCompare_ev (mkE x) (mkE x) (.inl (mk_bd x (by omega)))) ?_
    refine Ev.yes (cmpE_refl _) ?_
    refine Ev.bind (refCompare_ev x x (.inl hb)) ?_
    refine Ev.yes (cmpE_refl _) ?_
    refine Ev.bind (refCompare_ev x x (.inl hb)) ?_
    rw [cmpE_refl]
    exact Ev.now _
  · simp only [h, decide_false, Bool.not_false]
    refine Ev.step (fun k => by rw [vestrylaw10_ExprMaps.j0, if_pos rfl]) ?_
    exact Ev.bind awake_ev (Ev.now _)
end Go.Proofs.YtigghbfcflnoeaaDoor.Y
end
