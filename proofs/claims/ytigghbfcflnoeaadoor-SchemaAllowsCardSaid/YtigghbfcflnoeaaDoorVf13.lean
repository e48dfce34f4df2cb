/- A part of the proof of the claim's statement: plain laws and walks (some printed by a program over the kit's printer). It has no conditions of its own. -/
import Derived.Test.YtigghbfcflnoeaaDoorVf12
import Derived.Test.YtigghbfcflnoeaaDoorVf5
import Derived.BigRegionIn
section
namespace Go.Proofs.YtigghbfcflnoeaaDoor.Y
open Go.RowKit Go.Proofs.YtigghbfcflnoeaaDoorW.PrintWords Go.Proofs.YtigghbfcflnoeaaDoorW.PrintLast Go.Proofs.YtigghbfcflnoeaaDoorW.PrintMore
attribute [local go_sem] max2_int min2_int max_two min_two max_three min_three max_four min_four
set_option linter.unusedVariables false
set_option linter.unusedSimpArgs false
theorem members_calls (l : List S81) (A : Option Addr) (c : Nat) (w : World) :
    Calls Tryd.prog 67 #[.agg #[.slice A l.length c]] w fun e w' => e = .returned (.func (.func 103) #[] #[.pointer (some ⟨w.heap.size, 0, none⟩)]) ∧ w' = w.alloc (.cells #[.slice A l.length c] 59) := by
  go_enter Tryd.func67, Tryd.ntmps67
  go_wp2
  go_ret
  exact ⟨rfl, rfl⟩
def isRel (p : ByteArray × S42) : Bool := p.2.f1 == 1
def isPer (p : ByteArray × S42) : Bool := p.2.f1 != 1
abbrev scBox (l : List S81) (A : Option Addr) (c : Nat) : Obj := .cells #[.slice A l.length c] 59 (0, 0)
structure E62 (w W : World) (l : List S81) (A : Option Addr) (c : Nat) (a b : Nat) : Prop where
  e0 : W.heap[w.heap.size]? = some (scBox l A c)
  e1 : W.heap[w.heap.size + 1]? = some (.cells #[.int .i64 (a : Int)] 3 (0, 0))
  e2 : W.heap[w.heap.size + 2]? = some (.cells #[.int .i64 (b : Int)] 3 (0, 0))
  b : Below w.heap.size w W
theorem E62.far {w W W' : World} {l : List S81} {A : Option Addr} {c a b : Nat} (h : E62 w W l A c a b) (hh : ∀ k, k < w.heap.size + 3 → k < W.heap.size → W'.heap[k]? = W.heap[k]?) (hb : Below w.heap.size w W') : E62 w W' l A c a b :=
  ⟨(hh _ (by omega) (Array.getElem?_eq_some_iff.1 h.e0).1).trans h.e0, (hh _ (by omega) (Array.getElem?_eq_some_iff.1 h.e1).1).trans h.e1, (hh _ (by omega) (Array.getElem?_eq_some_iff.1 h.e2).1).trans h.e2, hb⟩
theorem E62.one {w W : World} {l : List S81} {A : Option Addr} {c a b : Nat} (h : E62 w W l A c a b) : E62 w (W.setCell ⟨w.heap.size + 1, 0, none⟩ (.int .i64 ((a : Int) + 1))) l A c (a + 1) b := by
  refine ⟨(Below.heap_setCell _ _ _ _ (by show w.heap.size ≠ w.heap.size + 1; omega)).trans h.e0, ?_, (Below.heap_setCell _ _ _ _ (by show w.heap.size + 2 ≠ w.heap.size + 1; omega)).trans h.e2, h.b.setCell (p := ⟨w.heap.size + 1, 0, none⟩) (by show w.heap.size ≤ w.heap.size + 1; omega) _⟩
  have := blk_put h.e1 0 (.int .i64 ((a : Int) + 1)) rfl
  rw [show ((a + 1 : Nat) : Int) = (a : Int) + 1 by omega]
  simpa using this
theorem E62.two {w W : World} {l : List S81} {A : Option Addr} {c a b : Nat} (h : E62 w W l A c a b) : E62 w (W.setCell ⟨w.heap.size + 1 + 1, 0, none⟩ (.int .i64 ((b : Int) + 1))) l A c a (b + 1) := by
  refine ⟨(Below.heap_setCell _ _ _ _ (by show w.heap.size ≠ w.heap.size + 1 + 1; omega)).trans h.e0, (Below.heap_setCell _ _ _ _ (by show w.heap.size + 1 ≠ w.heap.size + 1 + 1; omega)).trans h.e1, ?_, h.b.setCell (p := ⟨w.heap.size + 1 + 1, 0, none⟩) (by show w.heap.size ≤ w.heap.size + 1 + 1; omega) _⟩
  have := blk_put h.e2 0 (.int .i64 ((b : Int) + 1)) rfl
  rw [show ((b + 1 : Nat) : Int) = (b : Int) + 1 by omega]
  simpa using this
theorem results62 (tmps : Array Value) (w : World) (g1 g2 : Nat) (v : Value) (n1 n2 : Int) (h2 : tmps.getD 2 undef = v) (h3 : tmps.getD 3 undef = .pointer (some ⟨g1, 0, none⟩)) (h4 : tmps.getD 4 undef = .pointer (some ⟨g2, 0, none⟩))
    (c1 : w.cell? ⟨g1, 0, none⟩ = some (.int .i64 n1)) (c2 : w.cell? ⟨g2, 0, none⟩ = some (.int .i64 n2)) : (results Tryd.f62 tmps).run Tryd.prog w = .ok (.tuple #[v, .int .i64 n1, .int .i64 n2]) w := by
  have h : Tryd.f62.results = #[.tmp 2, .cell 3 3, .cell 4 3] := rfl
  have h2' : tmps[2]?.getD undef = v := by simpa using h2
  have h3' : tmps[3]?.getD undef = .pointer (some ⟨g1, 0, none⟩) := by simpa using h3
  have h4' : tmps[4]?.getD undef = .pointer (some ⟨g2, 0, none⟩) := by simpa using h4
  simp only [results, h]
  simp [h2', h3', h4', asAddr]
  go_simp
attribute [local go_sem] Oper.semAt_some
set_option maxHeartbeats 8000000 in
set_option maxRecDepth 100000 in
theorem count_at (l : List S81) (A : Option Addr) (c : Nat) (w : World) (hC : Kd.C k81 w A l.length l) (hl : (allM l).length ≤ 4611686018427387904) :
    Calls Tryd.prog 62 #[.agg #[.slice A l.length c]] w fun e w' => e = .returned (.tuple #[.int .i64 l.length, .int .i64 (((allM l).countP isRel : Nat) : Int), .int .i64 (((allM l).countP isPer : Nat) : Int)]) ∧ Below w.heap.size w w' := by
  have HC := Aside0.mk hC
  have HL := Aside0.mk hl
  clear hC hl
  refine (callsIn_wide (n := 9)).1 ?_
  refine callsIn_of_wp_marks Tryd.func62 rfl trivial ?_ rfl
  simp only [Tryd.ntmps62, List.size_toArray, List.length_cons, List.length_nil, Nat.reduceAdd, Nat.reduceSub, Array.replicate_succ, Array.replicate_zero, List.push_toArray, List.append_toArray, List.nil_append, List.cons_append]
  gi_wp2_with fail
  refine ⟨trivial, (callsIn_wide.2 (members_calls l A c _)).mono ?_⟩
  rintro e w1 ⟨rfl, rfl⟩
  gi_wp2_with fail
  obtain ⟨W0, hW0⟩ : ∃ W0, ((((w.alloc (scBox l A c)).alloc (.cells #[.int .i64 0] 3)).alloc (.cells #[.int .i64 0] 3)).alloc (scBox l A c)) = W0 := ⟨_, rfl⟩
  have hsz : W0.heap.size = w.heap.size + 4 := by rw [← hW0]; simp
  have hb0 : Below w.heap.size w W0 := by rw [← hW0]; exact ((((Below.refl _ w).alloc (Nat.le_refl _) _).alloc (by simp) _).alloc (by simp; omega) _).alloc (by simp; omega) _
  have q0 : W0.heap[w.heap.size]? = some (scBox l A c) := by rw [← hW0]; exact blk_alloc (blk_alloc (blk_alloc (blk_new w _) _) _) _
  have q1 : W0.heap[w.heap.size + 1]? = some (.cells #[.int .i64 0] 3 (0, 0)) := by
    rw [← hW0]; refine blk_alloc (blk_alloc ?_ _) _
    have := blk_new (w.alloc (scBox l A c)) (.cells #[.int .i64 0] 3); rwa [World.size_alloc] at this
  have q2 : W0.heap[w.heap.size + 2]? = some (.cells #[.int .i64 0] 3 (0, 0)) := by
    rw [← hW0]; refine blk_alloc ?_ _
    have := blk_new ((w.alloc (scBox l A c)).alloc (.cells #[.int .i64 0] 3)) (.cells #[.int .i64 0] 3); rwa [World.size_alloc, World.size_alloc] at this
  have q3 : W0.heap[w.heap.size + 3]? = some (scBox l A c) := by
    rw [← hW0]
    have := blk_new (((w.alloc (scBox l A c)).alloc (.cells #[.int .i64 0] 3)).alloc (.cells #[.int .i64 0] 3)) (scBox l A c); rwa [World.size_alloc, World.size_alloc, World.size_alloc] at this
  rw [hW0]
  clear hW0
  have own : ∀ (pre : List (MemV w (allM l))) W W' (row : Option Nat), E62 w W l A c ((mems pre).countP isRel) ((mems pre).countP isPer) → W.grownBy W' row → (∀ r, row = some r → W0.heap.size ≤ r) → E62 w W' l A c ((mems pre).countP isRel) ((mems pre).countP isPer) := by
    intro pre W W' row h hg hr
    refine h.far (fun k hk hlt => hg.block _ hlt (fun e => ?_)) (pw_below_grown h.b row h.b.size hg (fun k e => ?_))
    · have := hr _ e.symm
      omega
    · have := hr _ e
      omega
  refine wpIn_rangeFunc_ownH rfl (by omega) (gf := 103) (lb := #[.pointer (some ⟨w.heap.size + 3, 0, none⟩)]) rfl trivial (enters_of Tryd.func103 (by kernel_rfl) rfl)
    (members_stops _ w _ l A c (w.heap.size + 3) HC.out hb0 q3) (fun h k => h.trans k) (fun W l o o' hl ho hc _ => KpL.putObj hb0.size W l o o' hl ho hc) (Below.refl _ _) (fun _ => rfl)
    (fun pre W => E62 w W l A c ((mems pre).countP isRel) ((mems pre).countP isPer) ∧ W0.heap.size ≤ W.heap.size) (fun _ _ _ => False)
    (fun pre W W' row h hg hr => ⟨own pre W W' row h.1 hg (fun r e => (hr r e).1), Nat.le_trans h.2 hg.size⟩) (fun _ _ _ _ _ h _ _ => h) ⟨⟨q0, q1, q2, hb0⟩, Nat.le_refl _⟩
    (fun p a' W => ∃ b6, a' = { tmps := #[.agg #[.slice A l.length c], .pointer (some ⟨w.heap.size, 0, none⟩), .int .i64 0, .pointer (some ⟨w.heap.size + 1, 0, none⟩), .pointer (some ⟨w.heap.size + 1 + 1, 0, none⟩), undef, .pointer (some ⟨b6, 0, none⟩), .agg #[.slice A l.length c], .func (.func 103) #[] #[.pointer (some ⟨w.heap.size + 3, 0, none⟩)], .string p.1.1, p.val, undef, undef, undef, undef, undef, undef, undef, undef, undef, undef, undef, undef, undef], defers := [] } ∧ W0.heap.size ≤ b6 ∧ W.heap[b6]? = some (mbBox p.1.2.1 p.1.2.2.1 p.1.2.2.2.1 p.1.2.2.2.2.1 p.1.2.2.2.2.2))
    ?hAx ?assign ?body ?done ?stop
  case hAx =>
    rintro p a' _ W W' row ⟨b6, e, hb, h6⟩ hg hr
    refine ⟨b6, e, hb, (hg.block _ (Array.getElem?_eq_some_iff.1 h6).1 (fun e' => ?_)).trans h6⟩
    obtain ⟨_, o, ho, hc⟩ := hr _ e'.symm
    rw [h6] at ho
    cases ho
    cases hc
  case assign =>
    rintro l' pre ⟨⟨nm, m, A2, c2, A6, c6⟩, hp⟩ W K ⟨h, hs⟩ hK
    simp only [MemV.val] at hK ⊢
    have HK := Aside0.mk hK
    have H := Aside0.mk h
    clear hK h
    gi_wp2
    refine HK.out _ _ ⟨by simp, fun k o _ hk ho => ?_⟩ ?_ ⟨?_, Nat.le_trans hs (below_alloc (Below.refl W.heap.size W) _).size⟩ ⟨W.heap.size, rfl, hs, blk_new W _⟩
    · rw [Go.heap_alloc_old (h := (Array.getElem?_eq_some_iff.1 hk).1)]
      exact hk
    · exact KpL.of_below (below_alloc (Below.refl _ _) _) H.out.b.size
    · exact H.out.far (fun k _ hlt => (below_alloc (Below.refl _ _) _).block k hlt) (H.out.b.trans ((below_alloc (Below.refl _ _) _).mono H.out.b.size))
  case body =>
    rintro l' pre ⟨⟨nm, m, A2, c2, A6, c6⟩, hp⟩ a' W _ _ ⟨h, hs⟩ ⟨b6, rfl, hb6, h6⟩ hlt
    simp only at h6
    have hw : w.heap.size + 2 < W0.heap.size := by omega
    have c1 := List.countP_le_length (p := isRel) (l := mems pre)
    have c2' := List.countP_le_length (p := isPer) (l := mems pre)
    rw [mems_len] at c1 c2'
    have z6 : W.cell? ⟨b6, 1, none⟩ = some (.int .i64 m.f1) := (blk_cell h6 1).trans rfl
    have z3 : W.cell? ⟨w.heap.size + 1, 0, none⟩ = some (.int .i64 (((mems pre).countP isRel : Nat) : Int)) := (blk_cell h.e1 0).trans rfl
    have z4 : W.cell? ⟨w.heap.size + 1 + 1, 0, none⟩ = some (.int .i64 (((mems pre).countP isPer : Nat) : Int)) := (blk_cell h.e2 0).trans rfl
    have f3 := blk_frozen h.e1 0
    have f4 := blk_frozen h.e2 0
    have hw1 : wrap64 ((((mems pre).countP isRel : Nat) : Int) + 1) = (((mems pre).countP isRel : Nat) : Int) + 1 := wrap_ok2 (by omega) (by have := HL.out; omega)
    have hw2 : wrap64 ((((mems pre).countP isPer : Nat) : Int) + 1) = (((mems pre).countP isPer : Nat) : Int) + 1 := wrap_ok2 (by omega) (by have := HL.out; omega)
    have HI := Aside0.mk h
    have HSZ := Aside0.mk (And.intro hw hs)
    have hmp : mems (pre ++ [(⟨(nm, m, A2, c2, A6, c6), hp⟩ : MemV w (allM l))]) = mems pre ++ [(nm, m)] := by rw [mems_append]; rfl
    have HMP := Aside0.mk hmp
    obtain ⟨n1, hn1⟩ : ∃ n1, (mems pre).countP isRel = n1 := ⟨_, rfl⟩
    obtain ⟨n2, hn2⟩ : ∃ n2, (mems pre).countP isPer = n2 := ⟨_, rfl⟩
    rw [hn1] at z3 hw1 c1
    rw [hn2] at z4 hw2 c2'
    have HN := Aside0.mk (And.intro hn1 hn2)
    clear h hw hs hn1 hn2 hmp h6 hb6 c1 c2' hlt
    by_cases hk : m.f1 = 1
    · have hk1 : (m.f1 == 1) = true := beq_iff_eq.mpr hk
      have hk2 : (m.f1 != 1) = false := by simp [hk]
      have HK := Aside0.mk (And.intro hk1 hk2)
      clear hk
      gi_wp2
      refine ⟨(KeepsOthers.setCell _ _ _).from _, KpL.setCell _ _ _ (by show w.heap.size ≤ w.heap.size + 1; omega) (by show w.heap.size + 1 < W0.heap.size; have := HSZ.out.1; omega), ?_, by have := HSZ.out.2; simpa using this⟩
      rw [HMP.out, List.countP_append, List.countP_append, HN.out.1, HN.out.2, show List.countP isRel [(nm, m)] = 1 by simp [isRel, HK.out.1], show List.countP isPer [(nm, m)] = 0 by simp [isPer, HK.out.2]]
      have := HI.out
      rw [HN.out.1, HN.out.2] at this
      exact this.one
    · have hk1 : (m.f1 == 1) = false := by simpa using hk
      have hk2 : (m.f1 != 1) = true := by simpa using hk
      have HK := Aside0.mk (And.intro hk1 hk2)
      clear hk
      gi_wp2
      refine ⟨(KeepsOthers.setCell _ _ _).from _, KpL.setCell _ _ _ (by show w.heap.size ≤ w.heap.size + 1 + 1; omega) (by show w.heap.size + 1 + 1 < W0.heap.size; have := HSZ.out.1; omega), ?_, by have := HSZ.out.2; simpa using this⟩
      rw [HMP.out, List.countP_append, List.countP_append, HN.out.1, HN.out.2, show List.countP isRel [(nm, m)] = 0 by simp [isRel, HK.out.1], show List.countP isPer [(nm, m)] = 1 by simp [isPer, HK.out.2]]
      have := HI.out
      rw [HN.out.1, HN.out.2] at this
      exact this.two
  case done =>
    rintro D ys W hD hys ⟨h, hs⟩ hK
    have z1 : W.cell? ⟨w.heap.size, 0, none⟩ = some (.slice A l.length c) := (blk_cell h.e0 0).trans rfl
    rw [hys] at h
    have z3 : W.cell? ⟨w.heap.size + 1, 0, none⟩ = some (.int .i64 (((allM l).countP isRel : Nat) : Int)) := (blk_cell h.e1 0).trans rfl
    have z4 : W.cell? ⟨w.heap.size + 1 + 1, 0, none⟩ = some (.int .i64 (((allM l).countP isPer : Nat) : Int)) := (blk_cell h.e2 0).trans rfl
    have f3 := blk_frozen h.e1 0
    have f4 := blk_frozen h.e2 0
    have HI := Aside0.mk h
    have HK := Aside0.mk hK
    have HD := Aside0.mk (show w.heap.size + 4 ≤ D by omega)
    clear h hs hK hD hys
    obtain ⟨n1, hn1⟩ : ∃ n1 : Int, (((allM l).countP isRel : Nat) : Int) = n1 := ⟨_, rfl⟩
    obtain ⟨n2, hn2⟩ : ∃ n2 : Int, (((allM l).countP isPer : Nat) : Int) = n2 := ⟨_, rfl⟩
    rw [hn1] at z3
    rw [hn2] at z4
    have HN := Aside0.mk (And.intro hn1 hn2)
    clear hn1 hn2
    gi_wp2
    gi_region
    gi_wp2
    have hset : ((W.setCell ⟨w.heap.size + 1, 0, none⟩ (.int .i64 n1)).setCell ⟨w.heap.size + 1 + 1, 0, none⟩ (.int .i64 n2)).drew.heap[D]? = some (.deferred (some [])) := by
      have hd := HD.out
      exact blk_drew ((Below.heap_setCell _ _ _ _ (by show D ≠ w.heap.size + 1 + 1; omega)).trans ((Below.heap_setCell _ _ _ _ (by show D ≠ w.heap.size + 1; omega)).trans HK.out))
    have hB : Below w.heap.size w ((W.setCell ⟨w.heap.size + 1, 0, none⟩ (.int .i64 n1)).setCell ⟨w.heap.size + 1 + 1, 0, none⟩ (.int .i64 n2)).drew :=
      ((HI.out.b.setCell (p := ⟨w.heap.size + 1, 0, none⟩) (by show w.heap.size ≤ w.heap.size + 1; omega) _).setCell (p := ⟨w.heap.size + 1 + 1, 0, none⟩) (by show w.heap.size ≤ w.heap.size + 1 + 1; omega) _).drew
    have k1 := (blk_put HI.out.e1 0 (.int .i64 n1) rfl)
    have k2 : (W.setCell ⟨w.heap.size + 1, 0, none⟩ (.int .i64 n1)).heap[w.heap.size + 1 + 1]? = _ := (Below.heap_setCell _ _ _ _ (by show w.heap.size + 2 ≠ w.heap.size + 1; omega)).trans HI.out.e2
    have k3 := blk_put k2 0 (.int .i64 n2) rfl
    have k4 := (Below.heap_setCell (W.setCell ⟨w.heap.size + 1, 0, none⟩ (.int .i64 n1)) ⟨w.heap.size + 1 + 1, 0, none⟩ (.int .i64 n2) (w.heap.size + 1) (by show w.heap.size + 1 ≠ w.heap.size + 1 + 1; omega)).trans k1
    have hd := HD.out
    refine ⟨by simp, .inl ⟨_, _, rfl, run_takeDeferred hset, _, results62 _ _ (w.heap.size + 1) (w.heap.size + 1 + 1) (.int .i64 (l.length : Int)) n1 n2 rfl rfl rfl ?_ ?_, (by rw [HN.out.1, HN.out.2]), hB.trans ((KpL.putObj (n₀ := w.heap.size) (n₁ := w.heap.size) (Nat.le_refl _) _ D _ (.deferred none) (by omega) hset rfl).low)⟩⟩
    · exact (blk_cell ((World.putObj_heap_other (by omega)).trans (blk_drew k4)) 0).trans rfl
    · exact (blk_cell ((World.putObj_heap_other (by omega)).trans (blk_drew k3)) 0).trans rfl
  case stop =>
    rintro D c pre W _ _ h _
    exact h.elim
end Go.Proofs.YtigghbfcflnoeaaDoor.Y
end
section
namespace Go.Proofs.YtigghbfcflnoeaaDoor.Y
open Go.RowKit Go.Proofs.YtigghbfcflnoeaaDoorW.PrintWords Go.Proofs.YtigghbfcflnoeaaDoorW.PrintLast Go.Proofs.YtigghbfcflnoeaaDoorW.PrintMore
attribute [local go_sem] max2_int min2_int max_two min_two max_three min_three max_four min_four
set_option linter.unusedVariables false
set_option linter.unusedSimpArgs false
def schema_Count.f (l0_0 : List (S81)) : Option (Int × Int × Int) := if (allM l0_0).length ≤ 4611686018427387904 then some ((l0_0.length : Int), (((allM l0_0).countP isRel : Nat) : Int), (((allM l0_0).countP isPer : Nat) : Int)) else none
theorem schema_Count.calls (A0_0 : Option Addr) (c0_0 : Nat) (l0_0 : List (S81)) (r1 : Int) (r2 : Int) (r3 : Int) (w : World) (hr0_0 : Kd.C k81 w A0_0 l0_0.length l0_0) (_hc0_0 : l0_0.length ≤ c0_0) (h : schema_Count.f l0_0 = some (r1, r2, r3)) :
    Calls Tryd.prog 62 #[.agg #[.slice A0_0 l0_0.length c0_0]] w fun e w' => e = .returned (.tuple #[.int .i64 r1, .int .i64 r2, .int .i64 r3]) ∧ Below w.heap.size w w' := by
  unfold schema_Count.f at h
  split at h
  · have h := Option.some.inj h
    simp only [Prod.mk.injEq] at h
    obtain ⟨rfl, rfl, rfl⟩ := h
    exact count_at l0_0 A0_0 c0_0 w hr0_0 (by assumption)
  · cases h
end Go.Proofs.YtigghbfcflnoeaaDoor.Y
end
section
namespace Go.Proofs.YtigghbfcflnoeaaDoor.Y
open Go.RowKit Go.Proofs.YtigghbfcflnoeaaDoorW.PrintWords Go.Proofs.YtigghbfcflnoeaaDoorW.PrintLast Go.Proofs.YtigghbfcflnoeaaDoorW.PrintMore
attribute [local go_sem] max2_int min2_int max_two min_two max_three min_three max_four min_four
set_option linter.unusedVariables false
set_option linter.unusedSimpArgs false
def schema_Members.f (_l0_0 : List (S81)) : Option (Bool) := some true
theorem schema_Members.calls (A0_0 : Option Addr) (c0_0 : Nat) (l0_0 : List (S81)) (r : Bool) (w : World) (_hr0_0 : Kd.C k81 w A0_0 l0_0.length l0_0) (_hc0_0 : l0_0.length ≤ c0_0) (_h : schema_Members.f l0_0 = some r) :
    Calls Tryd.prog 67 #[.agg #[.slice A0_0 l0_0.length c0_0]] w fun e w' => e = .returned (.func (.func 103) #[] #[.pointer (some ⟨w.heap.size, 0, none⟩)]) ∧ Below w.heap.size w w' :=
  (members_calls l0_0 A0_0 c0_0 w).mono fun _ _ ⟨he, hw⟩ => ⟨he, hw ▸ below_alloc (Below.refl _ _) _⟩
end Go.Proofs.YtigghbfcflnoeaaDoor.Y
end
