/- A part of the proof of the claim's statement: plain laws and walks (some printed by a program over the kit's printer). It has no conditions of its own. -/
import Derived.Test.YtigghbfcflnoeaaDoorVd18
import Derived.Test.YtigghbfcflnoeaaDoorVd17
import Derived.Test.YtigghbfcflnoeaaDoorVd19
import Derived.Test.YtigghbfcflnoeaaDoorVd13
import Derived.Test.YtigghbfcflnoeaaDoorVd5
section
namespace Go.Proofs.YtigghbfcflnoeaaDoor.Y
open Go.RowKit Go.Proofs.YtigghbfcflnoeaaDoorW.PrintWords Go.Proofs.YtigghbfcflnoeaaDoorW.PrintLast Go.Proofs.YtigghbfcflnoeaaDoorW.PrintMore
attribute [local go_sem] max2_int min2_int max_two min_two max_three min_three max_four min_four
set_option linter.unusedVariables false
set_option linter.unusedSimpArgs false
theorem results6 (tmps : Array Value) (w : World) (g : Nat) (b : Bool) (hp : tmps.getD 4 undef = .pointer (some ⟨g, 0, none⟩)) (hg : w.cell? ⟨g, 0, none⟩ = some (.bool b)) :
    (results Tryd.f6 tmps).run Tryd.prog w = .ok (.bool b) w := by
  have h : Tryd.f6.results = #[.cell 4 4] := rfl
  have hp' : tmps[4]?.getD undef = .pointer (some ⟨g, 0, none⟩) := by simpa using hp
  simp only [results, h]
  simp [hp', asAddr]
  go_simp
theorem eq_nilF (p : Option Addr) (w' : World) : Sem.run Tryd.prog (binOp BinOp.eql 34 (Value.func (Fn.func 55) #[] #[Value.pointer p]) Value.nilFunc) w' = .ok (.bool false) w' := by
  kernel_rfl
theorem leaves_bd : ∀ x : S24, bdB x → ∀ y ∈ leavesB x, bdB y := by
  intro x
  induction x using S24.ind with
  | h x ih =>
    intro hb y hy
    rcases (Bool.eq_false_or_eq_true (leafk x.f0)).symm with hl | hl
    · rw [leavesB_node x hl] at hy
      obtain ⟨z, hz, hyz⟩ := List.mem_flatMap.mp hy
      exact ih z hz (((bdB_eq x).1 hb).2.2.2 z hz) y hyz
    · rw [leavesB_leaf x hl] at hy
      obtain rfl := List.mem_singleton.mp hy
      exact hb
theorem prefix_snoc {α : Type} {xs L : List α} {y : α} (h : xs <+: L) (hy : L[xs.length]? = some y) : xs ++ [y] <+: L := by
  obtain ⟨t, rfl⟩ := h
  rw [List.getElem?_append_right (Nat.le_refl _), Nat.sub_self] at hy
  cases t with
  | nil => simp at hy
  | cons z t =>
    obtain rfl : z = y := by simpa using hy
    exact ⟨t, by simp⟩
theorem prefix_last {α : Type} {xs L : List α} {y : α} (h : xs ++ [y] <+: L) : L[xs.length]? = some y := by
  obtain ⟨t, rfl⟩ := h
  simp
structure E6 (w W : World) (x : S24) (A : Option Addr) (c : Nat) (s : Int) : Prop where
  e0 : W.heap[w.heap.size]? = some (exBox x A c)
  e1 : W.heap[w.heap.size + 1]? = some (.cells #[.int .u8 s] 5 (0, 0))
  e2 : W.heap[w.heap.size + 2]? = some (.cells #[.bool false] 4 (0, 0))
  b : Below w.heap.size w W
theorem E6.below {w W W' : World} {x : S24} {A : Option Addr} {c : Nat} {s : Int} (h : E6 w W x A c s) (hb : Below W.heap.size W W') : E6 w W' x A c s :=
  ⟨blk_below h.e0 hb, blk_below h.e1 hb, blk_below h.e2 hb, h.b.trans (hb.mono h.b.size)⟩
theorem E6.first (w : World) (x : S24) (A : Option Addr) (c : Nat) (s : Int) : E6 w (((w.alloc (exBox x A c)).alloc (.cells #[.int .u8 s] 5)).alloc (.cells #[.bool false] 4)) x A c s := by
  refine ⟨blk_alloc (blk_alloc (blk_new w _) _) _, blk_alloc ?_ _, ?_, (((Below.refl _ w).alloc (Nat.le_refl _) _).alloc (by simp) _).alloc (by simp; omega) _⟩
  · have := blk_new (w.alloc (exBox x A c)) (.cells #[.int .u8 s] 5)
    rwa [World.size_alloc] at this
  · have := blk_new ((w.alloc (exBox x A c)).alloc (.cells #[.int .u8 s] 5)) (.cells #[.bool false] 4)
    rwa [World.size_alloc, World.size_alloc] at this
theorem end6 {w W : World} {x : S24} {A : Option Addr} {c : Nat} {s : Int} {D : Nat} {b : Bool} {tmps : Array Value} (HE : E6 w W x A c s) (hK : W.heap[D]? = some (.deferred (some []))) (hD : w.heap.size + 3 ≤ D)
    (ht : tmps.getD 4 undef = .pointer (some ⟨w.heap.size + 1 + 1, 0, none⟩)) (hb : b = true) :
    bodyPostM Fence.wide 9 Tryd.prog Tryd.f6 (fun e w' => e = .returned (.bool true) ∧ Below w.heap.size w w') Exit.ret { tmps := tmps, defers := [{ target := .collected D, args := #[] }] } (W.setCell ⟨w.heap.size + 1 + 1, 0, none⟩ (.bool b)) := by
  subst hb
  have hset : (W.setCell ⟨w.heap.size + 1 + 1, 0, none⟩ (.bool true)).heap[D]? = some (.deferred (some [])) := (Below.heap_setCell _ _ _ _ (by show D ≠ w.heap.size + 1 + 1; omega)).trans hK
  have hB : Below w.heap.size w (W.setCell ⟨w.heap.size + 1 + 1, 0, none⟩ (.bool true)) := HE.b.setCell (p := ⟨w.heap.size + 1 + 1, 0, none⟩) (by show w.heap.size ≤ w.heap.size + 1 + 1; omega) _
  refine ⟨by simp, .inl ⟨_, _, rfl, run_takeDeferred hset, _, results6 _ _ (w.heap.size + 1 + 1) true ht ?_, rfl, hB.trans ((KpL.putObj (n₀ := w.heap.size) (n₁ := w.heap.size) (Nat.le_refl _) _ D _ (.deferred none) (by omega) hset rfl).low)⟩⟩
  have h2 : ((W.setCell ⟨w.heap.size + 1 + 1, 0, none⟩ (.bool true)).putObj D (.deferred none)).heap[w.heap.size + 1 + 1]? = some (.cells #[.bool true] 4 (0, 0)) :=
    (World.putObj_heap_other (by omega)).trans (blk_put HE.e2 0 (.bool true) rfl)
  exact (blk_cell h2 0).trans rfl
attribute [local go_sem] Oper.semAt_some eq_nilF
set_option maxHeartbeats 8000000 in
set_option maxRecDepth 100000 in
theorem law6_calls (x : S24) (hb : bdB x) (A : Option Addr) (c : Nat) (s : Int) (hs0 : 0 ≤ s) (hs1 : s ≤ 255) (w : World) (hL : Laid w) (hC : Kd.C k24 w A x.f3.length x.f3) (hc : x.f3.length ≤ c) :
    Calls Tryd.prog 6 #[exV x A c, .int .u8 s] w fun e w' => e = .returned (.bool true) ∧ Below w.heap.size w w' := by
  obtain ⟨ka, hka⟩ := awake_ev
  have ha := hka ka (Nat.le_refl _)
  obtain ⟨kf, hkf⟩ := few_ev x hb
  have hf := hkf kf (Nat.le_refl _)
  have HC := Aside0.mk hC
  have Hc := Aside0.mk hc
  have HL := Aside0.mk hL
  have HA := Aside0.mk ha
  have HF := Aside0.mk hf
  have HS := Aside0.mk (And.intro hs0 hs1)
  have HBD := Aside0.mk hb
  clear hC hc hL hka hkf hs0 hs1 hb ha hf
  refine (callsIn_wide (n := 9)).1 ?_
  refine callsIn_of_wp_marks Tryd.func6 rfl trivial ?_ rfl
  simp only [Tryd.ntmps6, List.size_toArray, List.length_cons, List.length_nil, Nat.reduceAdd, Nat.reduceSub, Array.replicate_succ, Array.replicate_zero, List.push_toArray, List.append_toArray, List.nil_append, List.cons_append]
  gi_wp2_with fail
  refine ⟨trivial, (callsIn_wide.2 (vestrylaw10_awake.calls ka true _ (HL.out.below (E6.first w x A c s).b) HA.out)).mono ?_⟩
  rintro e W1 ⟨rfl, hb1⟩
  have HE := Aside0.mk ((E6.first w x A c s).below hb1)
  clear hb1
  have z0 : W1.cell? ⟨w.heap.size, 0, none⟩ = some (.int .i64 x.f0) := (blk_cell HE.out.e0 0).trans rfl
  have z1 : W1.cell? ⟨w.heap.size, 1, none⟩ = some (.string x.f1) := (blk_cell HE.out.e0 1).trans rfl
  have z2 : W1.cell? ⟨w.heap.size, 2, none⟩ = some (.string x.f2) := (blk_cell HE.out.e0 2).trans rfl
  have z3 : W1.cell? ⟨w.heap.size, 3, none⟩ = some (.slice A x.f3.length c) := (blk_cell HE.out.e0 3).trans rfl
  gi_wp2_with fail
  refine ⟨trivial, (callsIn_wide.2 (vestryref10_Few.calls kf x.f0 x.f1 x.f2 A c x.f3 _ _ (Kd.C_below HC.out HE.out.b) Hc.out HF.out)).mono ?_⟩
  rintro e W2 ⟨rfl, hb2⟩
  have HE2 := Aside0.mk (HE.out.below hb2)
  clear hb2 HE z0 z1 z2 z3 HF
  have z0 : W2.cell? ⟨w.heap.size, 0, none⟩ = some (.int .i64 x.f0) := (blk_cell HE2.out.e0 0).trans rfl
  have z1 : W2.cell? ⟨w.heap.size, 1, none⟩ = some (.string x.f1) := (blk_cell HE2.out.e0 1).trans rfl
  have z2 : W2.cell? ⟨w.heap.size, 2, none⟩ = some (.string x.f2) := (blk_cell HE2.out.e0 2).trans rfl
  have z3 : W2.cell? ⟨w.heap.size, 3, none⟩ = some (.slice A x.f3.length c) := (blk_cell HE2.out.e0 3).trans rfl
  by_cases hfew : cntE x 0 ≤ 150
  · rw [decide_eq_true hfew]
    have HW := Aside0.mk (few_wgt hfew)
    clear hfew
    gi_wp2_with fail
    obtain ⟨kl, hkl⟩ := refLeaves_ev x (by have := HW.out; omega)
    have hl := hkl kl (Nat.le_refl _)
    refine ⟨trivial, (callsIn_wide.2 (vestryref10_Leaves.calls kl x.f0 x.f1 x.f2 (fun k => k < w.heap.size) A c x.f3 _ _ (Kd.V_mk Hc.out (Kd.F_below (Kd.C_F k24_heap HC.out) HE2.out.b)) hl)).mono ?_⟩
    clear hkl hl
    rintro e W3 ⟨v0, rfl, hN, hb3⟩
    obtain ⟨Av, cv, rfl⟩ := Kd.N_slice hN
    have HN := Aside0.mk hN
    have HE3 := Aside0.mk (HE2.out.below hb3)
    clear hN hb3 HE2 z0 z1 z2 z3
    have za : ∀ o : Obj, (W3.alloc o).cell? ⟨w.heap.size, 0, none⟩ = some (.int .i64 x.f0) ∧ (W3.alloc o).cell? ⟨w.heap.size, 1, none⟩ = some (.string x.f1) ∧ (W3.alloc o).cell? ⟨w.heap.size, 2, none⟩ = some (.string x.f2) ∧ (W3.alloc o).cell? ⟨w.heap.size, 3, none⟩ = some (.slice A x.f3.length c) := fun o =>
      have h := (HE3.out.below (below_alloc (Below.refl _ _) o)).e0
      ⟨(blk_cell h 0).trans rfl, (blk_cell h 1).trans rfl, (blk_cell h 2).trans rfl, (blk_cell h 3).trans rfl⟩
    have z0 := fun o => (za o).1
    have z1 := fun o => (za o).2.1
    have z2 := fun o => (za o).2.2.1
    have z3 := fun o => (za o).2.2.2
    clear za
    gi_wp2_with fail
    refine ⟨trivial, (callsIn_wide.2 (leaves_calls x A c _)).mono ?_⟩
    rintro e W5 ⟨rfl, hW5⟩
    clear z0 z1 z2 z3
    obtain ⟨W4, hW4⟩ : ∃ W4, W3.alloc (.cells #[.slice Av (leavesB x).length cv] 22) = W4 := ⟨_, rfl⟩
    have HE4 := Aside0.mk (show E6 w W4 x A c s from hW4 ▸ HE3.out.below (below_alloc (Below.refl _ _) _))
    have HV4 := Aside0.mk (show W4.heap[W3.heap.size]? = some (.cells #[.slice Av (leavesB x).length cv] 22 (0, 0)) from hW4 ▸ blk_new W3 _)
    have HN4 := Aside0.mk (show Kd.C k24 W4 Av (leavesB x).length (leavesB x) from hW4 ▸ Kd.C_below (Kd.N_reads' HN.out).2.2 (below_alloc (Below.refl _ _) _))
    have hs4 : W4.heap.size = W3.heap.size + 1 := by rw [← hW4]; simp
    have Hcv := Aside0.mk (Kd.N_reads' HN.out).2.1
    rw [hW4] at hW5 ⊢
    clear hW4 HN HE3
    subst hW5
    gi_wp2_with fail
    obtain ⟨W0, hW0⟩ : ∃ W0, (W4.alloc (exBox x A c)).alloc (.cells #[.int .i64 0] 3) = W0 := ⟨_, rfl⟩
    have hb40 : Below W4.heap.size W4 W0 := hW0 ▸ ((Below.refl _ W4).alloc (Nat.le_refl _) _).alloc (by simp) _
    have bn : W0.heap[W3.heap.size + 2]? = some (.cells #[.int .i64 0] 3 (0, 0)) := by
      have := blk_new (W4.alloc (exBox x A c)) (.cells #[.int .i64 0] 3)
      rw [World.size_alloc, hs4, hW0] at this
      exact this
    have be : W0.heap[W3.heap.size + 1]? = some (exBox x A c) := by
      have := blk_alloc (blk_new W4 (exBox x A c)) (.cells #[.int .i64 0] 3)
      rw [hs4, hW0] at this
      exact this
    have hsz : W0.heap.size = W3.heap.size + 3 := by rw [← hW0]; simp [hs4]
    rw [hW0]
    clear hW0
    have hw0 : Below w.heap.size w W0 := (HE4.out.below hb40).b
    have hm := hw0.size
    refine wpIn_rangeFunc_ownH rfl (by omega) (gf := 55) (lb := #[.pointer (some ⟨W3.heap.size + 1, 0, none⟩)]) rfl trivial (enters_of Tryd.func55 (by kernel_rfl) rfl)
      (leaves_stops _ w _ x A c (W3.heap.size + 1) HC.out Hc.out hw0 be) (fun h k => h.trans k) (fun W l o o' hl ho hc _ => KpL.putObj hw0.size W l o o' hl ho hc) (Below.refl _ _) (fun _ => rfl)
      (fun pre W => W.heap[W3.heap.size + 2]? = some (.cells #[.int .i64 (pre.length : Int)] 3 (0, 0)) ∧ Below W4.heap.size W4 W ∧ exprs pre <+: leavesB x ∧ (pre.length : Int) ≤ s)
      (fun cd pre W => (cd = .ret ∧ ¬ exprs pre <+: leavesB x) ∨ (cd = .exit 0 ∧ W.heap[W3.heap.size + 2]? = some (.cells #[.int .i64 (pre.length : Int)] 3 (0, 0)) ∧ Below W4.heap.size W4 W ∧ exprs pre <+: leavesB x ∧ (pre.length : Int) = s + 1))
      ?hI ?hIx ⟨bn, hb40, by simp [exprs], HS.out.1⟩
      (fun p a' W => ∃ b8, a' = { tmps := #[exV x A c, .int .u8 s, .pointer (some ⟨w.heap.size, 0, none⟩), .pointer (some ⟨w.heap.size + 1, 0, none⟩), .pointer (some ⟨w.heap.size + 1 + 1, 0, none⟩), .pointer (some ⟨W3.heap.size, 0, none⟩), .func (.func 55) #[] #[.pointer (some ⟨W3.heap.size + 1, 0, none⟩)], .pointer (some ⟨W3.heap.size + 1 + 1, 0, none⟩), .pointer (some ⟨b8, 0, none⟩), .bool true, .bool false, .bool false, exV x A c, .bool true, .bool false, .bool false, undef, exV x A c, .slice Av (leavesB x).length cv, exV x A c, .func (.func 55) #[] #[.pointer (some ⟨W3.heap.size + 1, 0, none⟩)], .func (.func 55) #[] #[.pointer (some ⟨W3.heap.size + 1, 0, none⟩)], .bool false, .func (.func 55) #[] #[.pointer (some ⟨W3.heap.size + 1, 0, none⟩)], p.val, undef, undef, undef, undef, undef, undef, undef, undef, undef, undef, undef, undef, undef, undef, undef, undef, undef, undef, undef, undef, undef, undef, undef, undef, undef, undef, undef], defers := [] } ∧ W0.heap.size ≤ b8 ∧ W.heap[b8]? = some (exBox p.1.1 p.1.2.1 p.1.2.2)) ?hAx
      ?assign ?body ?done ?stop
    case hI =>
      rintro pre W W' row ⟨h1, h2, h3, h4⟩ hg hr
      refine ⟨(hg.block _ (Array.getElem?_eq_some_iff.1 h1).1 (fun e => ?_)).trans h1, pw_below_grown h2 row h2.size hg (fun k e => ?_), h3, h4⟩
      · have := (hr _ e.symm).1
        rw [hsz] at this
        omega
      · have := (hr _ e).1
        rw [hsz] at this
        omega
    case hIx =>
      rintro cd pre W W' row (h | ⟨e, h1, h2, h3, h4⟩) hg hr
      · exact .inl h
      refine .inr ⟨e, (hg.block _ (Array.getElem?_eq_some_iff.1 h1).1 (fun e => ?_)).trans h1, pw_below_grown h2 row h2.size hg (fun k e => ?_), h3, h4⟩
      · have := (hr _ e.symm).1
        rw [hsz] at this
        omega
      · have := (hr _ e).1
        rw [hsz] at this
        omega
    case hAx =>
      rintro p a' _ W W' row ⟨b8, e, hb, h8⟩ hg hr
      refine ⟨b8, e, hb, (hg.block _ (Array.getElem?_eq_some_iff.1 h8).1 (fun e' => ?_)).trans h8⟩
      obtain ⟨_, o, ho, hc⟩ := hr _ e'.symm
      rw [h8] at ho
      cases ho
      cases hc
    case assign =>
      rintro l pre ⟨⟨y, By, cy⟩, hy⟩ W K ⟨h1, h2, h3, h4⟩ hK
      simp only [LeafV.val, exV] at hK ⊢
      have HK := Aside0.mk hK
      clear hK
      have H1 := Aside0.mk h1
      have H2 := Aside0.mk h2
      have H3 := Aside0.mk h3
      have H4 := Aside0.mk h4
      clear h1 h2 h3 h4
      gi_wp2
      refine HK.out _ _ ⟨by simp, fun k o _ hk ho => ?_⟩ ?_ ⟨?_, ?_, H3.out, H4.out⟩ ⟨W.heap.size, rfl, ?_, ?_⟩
      · rw [Go.heap_alloc_old (h := (Array.getElem?_eq_some_iff.1 hk).1)]
        exact hk
      · refine KpL.of_below (below_alloc (Below.refl _ _) _) ?_
        have := H2.out.size
        have := HE4.out.b.size
        omega
      · exact blk_alloc H1.out _
      · exact H2.out.alloc H2.out.size _
      · have := (Array.getElem?_eq_some_iff.1 H1.out).1
        omega
      · exact blk_new W _
    case done =>
      rintro D ys W hD hys ⟨h1, h2, h3, h4⟩ hK
      have he : ys.length = (leavesB x).length := by rw [← hys]; simp [exprs]
      have HEW := Aside0.mk (HE4.out.below h2)
      have z7 : W.cell? ⟨W3.heap.size + 1 + 1, 0, none⟩ = some (.int .i64 (ys.length : Int)) := (blk_cell h1 0).trans rfl
      have z5 : W.cell? ⟨W3.heap.size, 0, none⟩ = some (.slice Av (leavesB x).length cv) := (blk_cell (blk_below HV4.out h2) 0).trans rfl
      have z3 : W.cell? ⟨w.heap.size + 1, 0, none⟩ = some (.int .u8 s) := (blk_cell HEW.out.e1 0).trans rfl
      have z4 : W.cell? ⟨w.heap.size + 1 + 1, 0, none⟩ = some (.bool false) := (blk_cell HEW.out.e2 0).trans rfl
      have zf := blk_frozen HEW.out.e2 0
      have HQ := Aside0.mk (show (ys.length : Int) = ((leavesB x).length : Int) ∧ (ys.length : Int) ≤ s from ⟨by omega, h4⟩)
      have HKK := Aside0.mk hK
      have hD2 : w.heap.size + 3 ≤ D := by
        have := (Array.getElem?_eq_some_iff.1 HE4.out.e2).1
        rw [hsz] at hD
        omega
      clear h1 h2 h3 h4 hK hys he
      generalize (ys.length : Int) = q at z7 HQ
      have hv1 : wrap64 s = s := wrap_ok (by have := HS.out; omega) (by have := HS.out; omega)
      have hv2 : wrap64 (s + 1) = s + 1 := wrap_ok (by have := HS.out; omega) (by have := HS.out; omega)
      gi_wp2
      · refine end6 HEW.out HKK.out hD2 rfl ?_
        have := HQ.out
        exact absurd ‹s + 1 < ((leavesB x).length : Int)› (by omega)
      · refine end6 HEW.out HKK.out hD2 rfl ?_
        have := HQ.out
        rw [beq_iff_eq]
        exact this.1
    case stop =>
      rintro D cd pre W hD hsp (⟨rfl, hn⟩ | ⟨rfl, h1, h2, h3, h4⟩) hK
      · exact absurd hsp hn
      have HEW := Aside0.mk (HE4.out.below h2)
      have z7 : W.cell? ⟨W3.heap.size + 1 + 1, 0, none⟩ = some (.int .i64 (pre.length : Int)) := (blk_cell h1 0).trans rfl
      have z5 : W.cell? ⟨W3.heap.size, 0, none⟩ = some (.slice Av (leavesB x).length cv) := (blk_cell (blk_below HV4.out h2) 0).trans rfl
      have z3 : W.cell? ⟨w.heap.size + 1, 0, none⟩ = some (.int .u8 s) := (blk_cell HEW.out.e1 0).trans rfl
      have z4 : W.cell? ⟨w.heap.size + 1 + 1, 0, none⟩ = some (.bool false) := (blk_cell HEW.out.e2 0).trans rfl
      have zf := blk_frozen HEW.out.e2 0
      have hle : pre.length ≤ (leavesB x).length := by
        have := h3.length_le
        simpa [exprs] using this
      have HQ := Aside0.mk (show (pre.length : Int) ≤ ((leavesB x).length : Int) ∧ (pre.length : Int) = s + 1 from ⟨by omega, h4⟩)
      have HKK := Aside0.mk hK
      have hD2 : w.heap.size + 3 ≤ D := by
        have := (Array.getElem?_eq_some_iff.1 HE4.out.e2).1
        rw [hsz] at hD
        omega
      clear h1 h2 h3 h4 hK hle hsp
      generalize (pre.length : Int) = q at z7 HQ
      have hv1 : wrap64 s = s := wrap_ok (by have := HS.out; omega) (by have := HS.out; omega)
      have hv2 : wrap64 (s + 1) = s + 1 := wrap_ok (by have := HS.out; omega) (by have := HS.out; omega)
      gi_wp2
      · refine end6 HEW.out HKK.out hD2 rfl ?_
        have := HQ.out
        rw [beq_iff_eq]
        exact this.2
      · refine end6 HEW.out HKK.out hD2 rfl ?_
        have := HQ.out
        rw [beq_iff_eq]
        have := ‹((leavesB x).length : Int) ≤ s + 1›
        omega
    case body =>
      rintro l pre p a' W hlW hrec ⟨h1, h2, h3, h4⟩ ⟨b8, rfl, hb8, h8⟩ hlt
      obtain ⟨hy, hcy⟩ := p.2
      obtain ⟨y, hye⟩ : ∃ y, p.1.1 = y := ⟨_, rfl⟩
      obtain ⟨By, hBye⟩ : ∃ z, p.1.2.1 = z := ⟨_, rfl⟩
      obtain ⟨cy, hcye⟩ : ∃ z, p.1.2.2 = z := ⟨_, rfl⟩
      rw [hye, hBye] at hy
      rw [hye, hcye] at hcy
      rw [hye, hBye, hcye] at h8
      simp only [LeafV.val, exV, hye, hBye, hcye]
      have HPE := Aside0.mk hye
      clear hye hBye hcye
      have hWs : W0.heap.size ≤ W.heap.size := by
        have := (Array.getElem?_eq_some_iff.1 h1).1
        omega
      have HEW := Aside0.mk (HE4.out.below h2)
      have hR := Kd.C_below HN4.out h2
      have q0 : 0 ≤ (pre.length : Int) := by omega
      have q1 : (pre.length : Int) < ((leavesB x).length : Int) := by omega
      obtain ⟨ad, Ae, ce, rfl, e0, e1, e2, e3, hle, hCe⟩ := at_T24 hR (pre.length : Int) q0 q1
      obtain ⟨r, hr⟩ : ∃ r, cmpE y (rd_T24 (leavesB x) (pre.length : Int)) = r := ⟨_, rfl⟩
      have hrd : (leavesB x)[pre.length]? = some (rd_T24 (leavesB x) (pre.length : Int)) := by rw [List.getElem?_eq_getElem hlt, rdT hlt]
      have hzB : bdB (rd_T24 (leavesB x) (pre.length : Int)) := leaves_bd x HBD.out _ (List.mem_of_getElem? hrd)
      obtain ⟨kc, hkc⟩ := refCompare_ev y (rd_T24 (leavesB x) (pre.length : Int)) (.inr hzB)
      have hcmp := hkc kc (Nat.le_refl _)
      rw [hr] at hcmp
      have z7 : W.cell? ⟨W3.heap.size + 1 + 1, 0, none⟩ = some (.int .i64 (pre.length : Int)) := (blk_cell h1 0).trans rfl
      have z5 : W.cell? ⟨W3.heap.size, 0, none⟩ = some (.slice (some ad) (leavesB x).length cv) := (blk_cell (blk_below HV4.out h2) 0).trans rfl
      have y0 : W.cell? ⟨b8, 0, none⟩ = some (.int .i64 y.f0) := (blk_cell h8 0).trans rfl
      have y1 : W.cell? ⟨b8, 1, none⟩ = some (.string y.f1) := (blk_cell h8 1).trans rfl
      have y2 : W.cell? ⟨b8, 2, none⟩ = some (.string y.f2) := (blk_cell h8 2).trans rfl
      have y3 : W.cell? ⟨b8, 3, none⟩ = some (.slice By y.f3.length cy) := (blk_cell h8 3).trans rfl
      have HY := Aside0.mk (Kd.C_below hy HEW.out.b)
      have HCY := Aside0.mk hcy
      have HCE := Aside0.mk (And.intro hCe hle)
      have HCMP := Aside0.mk hcmp
      have HR := Aside0.mk hr
      have HRD := Aside0.mk hrd
      have HI := Aside0.mk (And.intro h1 (And.intro h2 (And.intro h3 h4)))
      have HLT := Aside0.mk hlt
      have hge : ((leavesB x).length : Int) ≤ (pre.length : Int) ↔ False := ⟨fun h => by omega, False.elim⟩
      have hge2 : decide ((pre.length : Int) ≥ ((leavesB x).length : Int)) = false := decide_eq_false (by omega)
      have p0 := eq_true q0
      have p1 := eq_true q1
      have qi : (pre.length < (leavesB x).length) = True := eq_true (by omega)
      clear hy hcy hR q0 q1 hCe hle hkc hcmp hr hrd hzB h1 h2 h3 h4 hlt hrec
      obtain ⟨z, hz⟩ : ∃ z, rd_T24 (leavesB x) (pre.length : Int) = z := ⟨_, rfl⟩
      rw [hz] at HRD HR HCMP HCE e0 e1 e2 e3
      clear hz
      gi_wp2_with fail
      refine startIn_ (n := 13) (S := fun w' => w'.cell? ⟨W3.heap.size + 1 + 1, 0, none⟩ = some (.int .i64 (pre.length : Int)) ∧ w'.cell? ⟨W3.heap.size, 0, none⟩ = some (.slice (some ad) (leavesB x).length cv) ∧ w'.cell? ⟨b8, 0, none⟩ = some (.int .i64 y.f0) ∧ w'.cell? ⟨b8, 1, none⟩ = some (.string y.f1) ∧ w'.cell? ⟨b8, 2, none⟩ = some (.string y.f2) ∧ w'.cell? ⟨b8, 3, none⟩ = some (.slice By y.f3.length cy) ∧
        w'.cell? (ad.add (pre.length * 4)) = some (.int .i64 z.f0) ∧ w'.cell? ⟨(ad.add (pre.length * 4)).block, (ad.add (pre.length * 4)).off + 1, none⟩ = some (.string z.f1) ∧ w'.cell? ⟨(ad.add (pre.length * 4)).block, (ad.add (pre.length * 4)).off + 2, none⟩ = some (.string z.f2) ∧ w'.cell? ⟨(ad.add (pre.length * 4)).block, (ad.add (pre.length * 4)).off + 3, none⟩ = some (.slice Ae z.f3.length ce))
        (ds := []) #[false, false, false, false, false, false, false, false, false, false, false, false, false] (by kernel_rfl) rfl rfl (by kernel_rfl) ?hQ ⟨z7, z5, y0, y1, y2, y3, e0, e1, e2, e3⟩ (fun hHeld => ?_)
      case hQ =>
        rintro ⟨a, w, h⟩
        exact h
      refine take_ (i := 0) (N := some 25) (v := ?_) (a' := ?_) #[true, false, false, false, false, false, false, false, false, false, false, false, false] rfl rfl (by kernel_rfl) (fun _ _ _ h => h) (Or.inl ⟨by rfl, ?_⟩) hHeld ?_ ?_
      rotate_left
      · rintro w' ⟨s0, s1, s2, s3, s4, s5, s6, s7, s8, s9⟩
        go_simp
        with_reducible rfl
      rotate_left
      · simp only [Act.put, List.setIfInBounds_toArray, List.set_cons_zero, List.set_cons_succ, i64_w, i32_w]
        rfl
      refine take_ (i := 1) (N := some 26) (v := ?_) (a' := ?_) #[true, true, false, false, false, false, false, false, false, false, false, false, false] rfl rfl (by kernel_rfl) (fun _ _ _ h => h) (Or.inl ⟨by rfl, ?_⟩) hHeld ?_ ?_
      rotate_left
      · rintro w' ⟨s0, s1, s2, s3, s4, s5, s6, s7, s8, s9⟩
        go_simp
        with_reducible rfl
      rotate_left
      · simp only [Act.put, List.setIfInBounds_toArray, List.set_cons_zero, List.set_cons_succ, i64_w, i32_w]
        rfl
      refine pure_ (i := 2) (N := some 27) (v := ?_) (a' := ?_) #[true, true, true, false, false, false, false, false, false, false, false, false, false] rfl rfl (by kernel_rfl) (fun _ _ _ h => h) (Or.inl ⟨by rfl, ?_⟩) ?_ ?_
      rotate_left
      · intro w'
        go_simp
        with_reducible rfl
      rotate_left
      · simp only [Act.put, List.setIfInBounds_toArray, List.set_cons_zero, List.set_cons_succ, i64_w, i32_w]
        rfl
      refine pure_ (i := 3) (N := some 28) (v := ?_) (a' := ?_) #[true, true, true, true, false, false, false, false, false, false, false, false, false] rfl rfl (by kernel_rfl) (fun _ _ _ h => h) (Or.inl ⟨by rfl, ?_⟩) ?_ ?_
      rotate_left
      · intro w'
        go_simp
        with_reducible rfl
      rotate_left
      · simp only [Act.put, List.setIfInBounds_toArray, List.set_cons_zero, List.set_cons_succ, i64_w, i32_w]
        rfl
      refine pure_ (i := 4) (N := some 29) (v := ?_) (a' := ?_) #[true, true, true, true, true, false, false, false, false, false, false, false, false] rfl rfl (by kernel_rfl) (fun _ _ _ h => h) (Or.inl ⟨by rfl, ?_⟩) ?_ ?_
      rotate_left
      · intro w'
        go_simp
        with_reducible rfl
      rotate_left
      · simp only [Act.put, List.setIfInBounds_toArray, List.set_cons_zero, List.set_cons_succ, i64_w, i32_w]
        rfl
      refine take_ (i := 5) (N := some 30) (v := ?_) (a' := ?_) #[true, true, true, true, true, true, false, false, false, false, false, false, false] rfl rfl (by kernel_rfl) (fun _ _ _ h => h) (Or.inl ⟨by rfl, ?_⟩) hHeld ?_ ?_
      rotate_left
      · rintro w' ⟨s0, s1, s2, s3, s4, s5, s6, s7, s8, s9⟩
        go_simp
        with_reducible rfl
      rotate_left
      · simp only [Act.put, List.setIfInBounds_toArray, List.set_cons_zero, List.set_cons_succ, i64_w, i32_w]
        rfl
      refine take_ (i := 6) (N := some 31) (v := ?_) (a' := ?_) #[true, true, true, true, true, true, true, false, false, false, false, false, false] rfl rfl (by kernel_rfl) (fun _ _ _ h => h) (Or.inl ⟨by rfl, ?_⟩) hHeld ?_ ?_
      rotate_left
      · rintro w' ⟨s0, s1, s2, s3, s4, s5, s6, s7, s8, s9⟩
        go_simp
        with_reducible rfl
      rotate_left
      · simp only [Act.put, List.setIfInBounds_toArray, List.set_cons_zero, List.set_cons_succ, i64_w, i32_w]
        rfl
      refine take_ (i := 7) (N := some 32) (v := ?_) (a' := ?_) #[true, true, true, true, true, true, true, true, false, false, false, false, false] rfl rfl (by kernel_rfl) (fun _ _ _ h => h) (Or.inl ⟨by rfl, ?_⟩) hHeld ?_ ?_
      rotate_left
      · rintro w' ⟨s0, s1, s2, s3, s4, s5, s6, s7, s8, s9⟩
        go_simp
        with_reducible rfl
      rotate_left
      · simp only [Act.put, List.setIfInBounds_toArray, List.set_cons_zero, List.set_cons_succ, i64_w, i32_w]
        rfl
      refine pure_ (i := 8) (N := some 33) (v := ?_) (a' := ?_) #[true, true, true, true, true, true, true, true, true, false, false, false, false] rfl rfl (by kernel_rfl) (fun _ _ _ h => h) (Or.inl ⟨by rfl, ?_⟩) ?_ ?_
      rotate_left
      · intro w'
        go_simp
        with_reducible rfl
      rotate_left
      · simp only [Act.put, List.setIfInBounds_toArray, List.set_cons_zero, List.set_cons_succ, i64_w, i32_w]
        rfl
      refine take_ (i := 9) (N := some 34) (v := ?_) (a' := ?_) #[true, true, true, true, true, true, true, true, true, true, false, false, false] rfl rfl (by kernel_rfl) (fun _ _ _ h => h) (Or.inl ⟨by rfl, ?_⟩) hHeld ?_ ?_
      rotate_left
      · rintro w' ⟨s0, s1, s2, s3, s4, s5, s6, s7, s8, s9⟩
        go_simp
        with_reducible rfl
      rotate_left
      · simp only [Act.put, List.setIfInBounds_toArray, List.set_cons_zero, List.set_cons_succ, i64_w, i32_w]
        rfl
      refine one_ (i := 10) (N := some 35) #[true, true, true, true, true, true, true, true, true, true, true, false, false] rfl rfl (by kernel_rfl) (by decide) (fun K hK => ?_)
      refine goes_ Tryd.func22 (by kernel_rfl) rfl #[.agg #[.int .i64 y.f0, .string y.f1, .string y.f2, .slice By y.f3.length cy], .agg #[.int .i64 z.f0, .string z.f1, .string z.f2, .slice Ae z.f3.length ce]] (by rfl) rfl rfl (by (try simp only [List.map_toArray, List.map_cons, List.map_nil]); first | done | rfl) ?_
      refine (vestryref10_Compare.calls kc y.f0 y.f1 y.f2 By cy y.f3 z.f0 z.f1 z.f2 Ae ce z.f3 r _ (Kd.C_drew HY.out) HCY.out (Kd.C_drew HCE.out.1) HCE.out.2 HCMP.out).mono ?_
      rintro e W2 ⟨rfl, hb⟩
      refine ⟨_, rfl, ?_⟩
      have HB2 := Aside0.mk (show Below W.heap.size W W2 from (below_drew (Below.refl W.heap.size W)).trans hb)
      obtain ⟨s0, s1, s2, s3, s4, s5, s6, s7, s8, s9⟩ := hHeld
      refine hK.out _ _ ⟨pw_cell_below hb s0, pw_cell_below hb s1, pw_cell_below hb s2, pw_cell_below hb s3, pw_cell_below hb s4, pw_cell_below hb s5, pw_cell_below hb s6, pw_cell_below hb s7, pw_cell_below hb s8, pw_cell_below hb s9⟩ (fun hHeld => ?_)
      clear hK K hb s0 s1 s2 s3 s4 s5 s6 s7 s8 s9
      refine norm_ (a' := ?_) ?_ ?_
      rotate_left
      · show Act.put _ (some 35) _ = _
        simp only [Act.put, List.setIfInBounds_toArray, List.set_cons_zero, List.set_cons_succ, i64_w, i32_w]
        rfl
      refine pure_ (i := 11) (N := some 36) (v := ?_) (a' := ?_) #[true, true, true, true, true, true, true, true, true, true, true, true, false] rfl rfl (by kernel_rfl) (fun _ _ _ h => h) (Or.inl ⟨by rfl, ?_⟩) ?_ ?_
      rotate_left
      · intro w'
        go_simp
        with_reducible rfl
      rotate_left
      · simp only [Act.put, List.setIfInBounds_toArray, List.set_cons_zero, List.set_cons_succ, i64_w, i32_w]
        rfl
      refine pure_ (i := 12) (N := some 37) (v := ?_) (a' := ?_) #[true, true, true, true, true, true, true, true, true, true, true, true, true] rfl rfl (by kernel_rfl) (fun _ _ _ h => h) (Or.inl ⟨by rfl, ?_⟩) ?_ ?_
      rotate_left
      · intro w'
        go_simp
        with_reducible rfl
      rotate_left
      · simp only [Act.put, List.setIfInBounds_toArray, List.set_cons_zero, List.set_cons_succ, i64_w, i32_w]
        rfl
      refine done_ (by kernel_rfl) ?_
      clear hHeld z7 z5 y0 y1 y2 y3 e0 e1 e2 e3
      have h7 : W2.heap[W3.heap.size + 2]? = some (.cells #[.int .i64 (pre.length : Int)] 3 (0, 0)) := blk_below HI.out.1 HB2.out
      have hBW : Below W4.heap.size W4 W2 := HI.out.2.1.trans (HB2.out.mono HI.out.2.1.size)
      have HEV := Aside0.mk (HE4.out.below hBW)
      have H7 := Aside0.mk h7
      have HBW := Aside0.mk hBW
      have hn1 : w.heap.size + 2 ≤ W3.heap.size := by
        have := (Array.getElem?_eq_some_iff.1 HE4.out.e2).1
        omega
      have z4 : W2.cell? ⟨w.heap.size + 1 + 1, 0, none⟩ = some (.bool false) := (blk_cell HEV.out.e2 0).trans rfl
      have zf4 := blk_frozen HEV.out.e2 0
      have z7 : W2.cell? ⟨W3.heap.size + 1 + 1, 0, none⟩ = some (.int .i64 (pre.length : Int)) := (blk_cell h7 0).trans rfl
      have zf7 := blk_frozen h7 0
      have z3 : ∀ v, (W2.setCell ⟨W3.heap.size + 1 + 1, 0, none⟩ v).cell? ⟨w.heap.size + 1, 0, none⟩ = some (.int .u8 s) := fun v =>
        (blk_cell ((Below.heap_setCell W2 ⟨W3.heap.size + 1 + 1, 0, none⟩ v (w.heap.size + 1) (by show w.heap.size + 1 ≠ W3.heap.size + 1 + 1; omega)).trans HEV.out.e1) 0).trans rfl
      have HK2 := Aside0.mk (show KeepsFrom W0.heap.size W W2 from ⟨HB2.out.size, fun k o _ hk _ => (HB2.out.block k (Array.getElem?_eq_some_iff.1 hk).1).trans hk⟩)
      have HKp2 := Aside0.mk (show KpL w.heap.size W0.heap.size W W2 from KpL.of_below HB2.out (by omega))
      have hexp : exprs (pre ++ [p]) = exprs pre ++ [y] := by rw [exprs_append, ← HPE.out]; rfl
      have HX := Aside0.mk hexp
      have HSW := Aside0.mk hWs
      have HN1 := Aside0.mk hn1
      have hv1 : wrap64 s = s := wrap_ok (by have := HS.out; omega) (by have := HS.out; omega)
      have hv2 : wrap64 ((pre.length : Int) + 1) = (pre.length : Int) + 1 := wrap_ok (by omega) (by have := HI.out.2.2.2; have := HS.out; omega)
      clear h7 hBW hexp hWs hn1
      by_cases hr0 : r = 0
      · have hrb : (r != 0) = false := by simp [hr0]
        have HZ := Aside0.mk (show y = z from (cmpE_anti y z).2.2 (HR.out.trans hr0))
        clear hr0
        have HPR := Aside0.mk (show exprs (pre ++ [p]) <+: leavesB x by
          rw [HX.out, HZ.out]
          exact prefix_snoc HI.out.2.2.1 (by rw [show (exprs pre).length = pre.length by simp [exprs]]; exact HRD.out))
        have HLn := Aside0.mk (show ((pre ++ [p]).length : Int) = (pre.length : Int) + 1 by simp)
        have HS2 : ∀ v, KpL w.heap.size W0.heap.size W2 (W2.setCell ⟨W3.heap.size + 1 + 1, 0, none⟩ v) := fun v => KpL.setCell _ _ _ (by show w.heap.size ≤ W3.heap.size + 1 + 1; have := HN1.out; omega) (by show W3.heap.size + 1 + 1 < W0.heap.size; omega)
        have HS3 : ∀ v, Below W4.heap.size W4 (W2.setCell ⟨W3.heap.size + 1 + 1, 0, none⟩ v) := fun v => HBW.out.setCell (p := ⟨W3.heap.size + 1 + 1, 0, none⟩) (by show W4.heap.size ≤ W3.heap.size + 1 + 1; omega) _
        have HS4 : ∀ v, (W2.setCell ⟨W3.heap.size + 1 + 1, 0, none⟩ v).heap[W3.heap.size + 2]? = some (.cells #[v] 3 (0, 0)) := fun v => (blk_put H7.out 0 v rfl).trans (by simp)
        have HS2 := Aside0.mk HS2
        have HS3 := Aside0.mk HS3
        have HS4 := Aside0.mk HS4
        gi_wp2
        · refine ⟨HK2.out.trans ((KeepsOthers.setCell _ _ _).from _), .inr ⟨rfl, ?_, HS3.out _, HPR.out, ?_⟩⟩
          · rw [HLn.out]
            exact HS4.out _
          · rw [HLn.out]
            have := HI.out.2.2.2
            have := ‹s < (pre.length : Int) + 1›
            omega
        · refine ⟨HK2.out.trans ((KeepsOthers.setCell _ _ _).from _), HKp2.out.trans (HS2.out _), ?_, HS3.out _, HPR.out, ?_⟩
          · rw [HLn.out]
            exact HS4.out _
          · rw [HLn.out]
            have := ‹(pre.length : Int) + 1 ≤ s›
            omega
      · have hrb : (r != 0) = true := by simp [hr0]
        have HZ := Aside0.mk (show ¬ exprs (pre ++ [p]) <+: leavesB x by
          rw [HX.out]
          intro hp
          have := prefix_last hp
          rw [show (exprs pre).length = pre.length by simp [exprs], HRD.out] at this
          obtain rfl := Option.some.inj this
          exact hr0 (HR.out.symm.trans (cmpE_refl _)))
        clear hr0
        gi_wp2
        exact ⟨HK2.out.trans ((KeepsOthers.setCell _ _ _).from _), .inl ⟨rfl, HZ.out⟩⟩
  · rw [decide_eq_false hfew]
    clear hfew
    gi_wp2_with fail
    refine ⟨trivial, (callsIn_wide.2 (vestrylaw10_awake.calls ka true _ (HL.out.below HE2.out.b) HA.out)).mono ?_⟩
    rintro e W3 ⟨rfl, hb3⟩
    have HE3 := Aside0.mk (HE2.out.below hb3)
    clear hb3 HE2 z0 z1 z2 z3
    have z4 : W3.cell? ⟨w.heap.size + 2, 0, none⟩ = some (.bool false) := (blk_cell HE3.out.e2 0).trans rfl
    have zf := blk_frozen HE3.out.e2 0
    gi_wp2_with fail
    exact ⟨_, results6 _ _ (w.heap.size + 2) true rfl ((blk_cell (blk_put HE3.out.e2 0 (.bool true) rfl) 0).trans rfl), rfl, HE3.out.b.setCell (p := ⟨w.heap.size + 2, 0, none⟩) (by show w.heap.size ≤ w.heap.size + 2; omega) _⟩
end Go.Proofs.YtigghbfcflnoeaaDoor.Y
end
