/- A part of the proof of the claim's statement: plain laws and walks (some printed by a program over the kit's printer). It has no conditions of its own. -/
import Derived.Test.YtigghbfcflnoeaaDoorVf7
import Derived.Test.YtigghbfcflnoeaaDoorVf10
import Derived.Test.YtigghbfcflnoeaaDoorVf5
import Derived.Test.YtigghbfcflnoeaaDoorVf11
import Derived.RangeFuncNested
import Derived.RangeFuncBound
import Derived.RangeFuncCalls
import Derived.RangeFuncLeaves
import Derived.OwnWalkIn
import Derived.TacticsInMore
import Derived.LoopNIn
import Derived.LoopIn
import Derived.Laws.EntriesVeiled
section
namespace Go.Proofs.YtigghbfcflnoeaaDoor.Y
open Go.RowKit Go.Proofs.YtigghbfcflnoeaaDoorW.PrintWords Go.Proofs.YtigghbfcflnoeaaDoorW.PrintLast Go.Proofs.YtigghbfcflnoeaaDoorW.PrintMore
attribute [local go_sem] max2_int min2_int max_two min_two max_three min_three max_four min_four
set_option linter.unusedVariables false
set_option linter.unusedSimpArgs false
attribute [local go_sem] Oper.semAt_some
theorem room_none {F : Fence} (hd : F.depth = none) (k : Nat) : F.room k := fun d h => by rw [hd] at h; cases h
theorem RoundIn_any {F : Fence} (hd : F.depth = none) {m m' : Nat} {P : Program} {l : Nat} {f : FuncId} {tmps : Array Value} {assign body : Code} {w : World} {R : Ending → World → Prop}
    (h : RoundIn F m P l f tmps assign body w R) : RoundIn F m' P l f tmps assign body w R := ⟨h.1, fun c cs _ => h.2 c cs (room_none hd _)⟩
theorem YieldAt_any {F : Fence} (hd : F.depth = none) {m : Nat} (m' : Nat) {P : Program} {l : Nat} {args : Array Value} {W : World} {R : Ending → World → Prop} (h : YieldAt F m P l args W R) : YieldAt F m' P l args W R := by
  obtain ⟨fn, tmps, assign, body, hy, hR⟩ := h
  exact ⟨fn, tmps, assign, body, hy, RoundIn_any hd hR⟩
structure KpL (n₀ n₁ : Nat) (W W' : World) : Prop where
  low : Below n₀ W W'
  new : ∀ k, n₁ ≤ k → k < W.heap.size → ∀ cs t f, W.heap[k]? = some (.cells cs t f) → W'.heap[k]? = W.heap[k]?
theorem KpL.refl (n₀ n₁ : Nat) (W : World) : KpL n₀ n₁ W W := ⟨Below.refl _ _, fun _ _ _ _ _ _ _ => rfl⟩
theorem KpL.trans {n₀ n₁ : Nat} {A B C : World} (h : KpL n₀ n₁ A B) (k : KpL n₀ n₁ B C) : KpL n₀ n₁ A C :=
  ⟨h.low.trans k.low, fun i hi hl cs t f hc => by
    have e := h.new i hi hl cs t f hc
    exact (k.new i hi (Nat.lt_of_lt_of_le hl h.low.size) cs t f (e.trans hc)).trans e⟩
theorem KpL.of_below {n₀ n₁ : Nat} {W W' : World} (h : Below W.heap.size W W') (hn : n₀ ≤ W.heap.size) : KpL n₀ n₁ W W' :=
  ⟨h.mono hn, fun k _ hk _ _ _ _ => h.block k hk⟩
theorem KpL.putObj {n₀ n₁ : Nat} (h01 : n₀ ≤ n₁) (W : World) (l : Nat) (o o' : Obj) (hl : n₁ ≤ l) (ho : W.heap[l]? = some o) (hc : o.isCells = false) : KpL n₀ n₁ W (W.putObj l o') :=
  ⟨⟨rfl, rfl, rfl, by simp, fun k hk => World.putObj_heap_other (by omega)⟩, fun k hk hlt cs t f he => World.putObj_heap_other (by
    intro e
    subst e
    rw [he] at ho
    injection ho with ho
    subst ho
    simp [Obj.isCells] at hc)⟩
theorem KpL.blk {n₀ n₁ : Nat} {W W' : World} (h : KpL n₀ n₁ W W') {k : Nat} {cs : Array Value} {t : TypeId} {f : Nat × Nat} (hk : n₁ ≤ k) (hc : W.heap[k]? = some (.cells cs t f)) : W'.heap[k]? = some (.cells cs t f) :=
  (h.new k hk (Array.getElem?_eq_some_iff.1 hc).1 cs t f hc).trans hc
theorem KpL.setCell {n₀ n₁ : Nat} (W : World) (a : Addr) (v : Value) (h0 : n₀ ≤ a.block) (h1 : a.block < n₁) : KpL n₀ n₁ W (W.setCell a v) :=
  ⟨(Below.refl n₀ W).setCell h0 _, fun k hk _ _ _ _ _ => Below.heap_setCell W a v k (by omega)⟩
def leafk (a : Int) : Bool := if a = 3 then false else if a = 4 then false else a != 5
theorem leaf_f (a : Int) (b c : ByteArray) (l : List S24) : expr_part_leaf.f a b c l = some (leafk a) := by
  simp only [expr_part_leaf.f, leafk]
  split
  · rfl
  · split <;> rfl
def leavesB : S24 → List S24
  | ⟨a, b, c, l⟩ => if leafk a = true then [⟨a, b, c, l⟩] else leavesL l
where leavesL : List S24 → List S24
  | [] => []
  | x :: xs => leavesB x ++ leavesL xs
theorem leavesL_flat (l : List S24) : leavesB.leavesL l = l.flatMap leavesB := by
  induction l with
  | nil => simp [leavesB.leavesL]
  | cons x xs ih => simp [leavesB.leavesL, ih]
theorem leavesB_leaf (x : S24) (h : leafk x.f0 = true) : leavesB x = [x] := by
  cases x
  rw [leavesB, if_pos h]
theorem leavesB_node (x : S24) (h : leafk x.f0 = false) : leavesB x = x.f3.flatMap leavesB := by
  obtain ⟨a, b, c, l⟩ := x
  have h' : ¬ leafk a = true := by rw [show leafk a = false from h]; simp
  rw [leavesB, if_neg h', leavesL_flat]
abbrev LeafV (w : World) := { p : S24 × Option Addr × Nat // Kd.C k24 w p.2.1 p.1.f3.length p.1.f3 ∧ p.1.f3.length ≤ p.2.2 }
def LeafV.val {w : World} (p : LeafV w) : Value := exV p.1.1 p.1.2.1 p.1.2.2
def exprs {w : World} (ys : List (LeafV w)) : List S24 := ys.map (·.1.1)
theorem exprs_append {w : World} (xs ys : List (LeafV w)) : exprs (xs ++ ys) = exprs xs ++ exprs ys := by simp [exprs]
structure Boxes (l By Bv : Nat) (W : World) : Prop where
  y : W.heap[By]? = some (.cells #[.func (.yield l) #[] #[]] 26 (0, 0))
  v : W.heap[Bv]? = some (.cells #[.func (.func 56) #[] #[.pointer (some ⟨By, 0, none⟩), .pointer (some ⟨Bv, 0, none⟩)]] 26 (0, 0))
theorem Boxes.kept {l By Bv n₀ n₁ : Nat} {W W' : World} (h : Boxes l By Bv W) (k : KpL n₀ n₁ W W') (hy : n₁ ≤ By) (hv : n₁ ≤ Bv) : Boxes l By Bv W' := ⟨k.blk hy h.y, k.blk hv h.v⟩
def VisitPost (w : World) (n₁ : Nat) (J Jx : List (LeafV w) → World → Prop) (yes no : Bool) (pre : List (LeafV w)) (ls : List S24) (W : World) (e : Ending) (W' : World) : Prop :=
  (e = .returned (.bool yes) ∧ ∃ ys, exprs ys = ls ∧ J (pre ++ ys) W' ∧ KpL w.heap.size n₁ W W') ∨ (e = .returned (.bool no) ∧ ∃ ys, exprs ys <+: ls ∧ Jx (pre ++ ys) W')
def VisitAt (w : World) (n₁ l By Bv N : Nat) (J Jx : List (LeafV w) → World → Prop) (x : S24) : Prop :=
  ∀ A c pre W, Kd.C k24 w A x.f3.length x.f3 → x.f3.length ≤ c → Below w.heap.size w W → Boxes l By Bv W → J pre W → pre.length + (leavesB x).length ≤ N →
    Calls Tryd.prog 56 #[exV x A c, .pointer (some ⟨By, 0, none⟩), .pointer (some ⟨Bv, 0, none⟩)] W (VisitPost w n₁ J Jx true false pre (leavesB x) W)
set_option maxHeartbeats 4000000 in
set_option maxRecDepth 100000 in
theorem visit1_calls {w : World} {n₁ l By Bv N : Nat} {J Jx : List (LeafV w) → World → Prop} {x : S24} (h01 : w.heap.size ≤ n₁) (hv : n₁ ≤ Bv) (hy : n₁ ≤ By)
    (hJ : ∀ s W W', J s W → Below W.heap.size W W' → J s W') (H : VisitAt w n₁ l By Bv N J Jx x) (A : Option Addr) (c : Nat) (pre : List (LeafV w)) (W : World)
    (hC : Kd.C k24 w A x.f3.length x.f3) (hc : x.f3.length ≤ c) (hb : Below w.heap.size w W) (hB : Boxes l By Bv W) (h0 : J pre W) (hN : pre.length + (leavesB x).length ≤ N) :
    Calls Tryd.prog 59 #[exV x A c, .pointer (some ⟨Bv, 0, none⟩)] W (VisitPost w n₁ J Jx false true pre (leavesB x) W) := by
  have k1 : KpL w.heap.size n₁ W (W.alloc (.cells #[.int .i64 x.f0, .string x.f1, .string x.f2, .slice A x.f3.length c] 24)) := .of_below (below_alloc (Below.refl _ _) _) hb.size
  have HC := Aside0.mk (H A c pre _ hC hc (hb.trans k1.low) (hB.kept k1 hy hv) (hJ _ _ _ h0 (below_alloc (Below.refl _ _) _)) hN)
  have K1 := Aside0.mk k1
  have z : (W.alloc (.cells #[.int .i64 x.f0, .string x.f1, .string x.f2, .slice A x.f3.length c] 24)).cell? ⟨Bv, 0, none⟩ = some (.func (.func 56) #[] #[.pointer (some ⟨By, 0, none⟩), .pointer (some ⟨Bv, 0, none⟩)]) := (blk_cell (hB.kept k1 hy hv).v 0).trans rfl
  have hlt := (Array.getElem?_eq_some_iff.1 hB.v).1
  clear H hC hb hB h0 hN k1 hJ
  generalize leavesB x = ls at HC
  obtain ⟨f0, f1, f2, f3⟩ := x
  go_enter Tryd.func59, Tryd.ntmps59
  go_wp2_with fail
  refine HC.out.mono ?_
  clear HC z
  rintro e w' (⟨rfl, ys, h1, h2, h3⟩ | ⟨rfl, ys, h1, h2⟩)
  · have H := Aside0.mk (And.intro h1 (And.intro h2 h3))
    clear h1 h2 h3
    go_wp2
    go_ret
    exact .inl ⟨rfl, ys, H.out.1, H.out.2.1, K1.out.trans H.out.2.2⟩
  · have H := Aside0.mk (And.intro h1 h2)
    clear h1 h2
    go_wp2
    go_ret
    exact .inr ⟨rfl, ys, H.out.1, H.out.2⟩
set_option maxHeartbeats 4000000 in
set_option maxRecDepth 100000 in
theorem visit_node {w : World} {n₁ l By Bv N : Nat} {J Jx : List (LeafV w) → World → Prop} {x : S24} (h01 : w.heap.size ≤ n₁) (hv : n₁ ≤ Bv) (hy : n₁ ≤ By)
    (hJ : ∀ s W W', J s W → Below W.heap.size W W' → J s W') (hlf : leafk x.f0 = false) (H : ∀ y ∈ x.f3, VisitAt w n₁ l By Bv N J Jx y) : VisitAt w n₁ l By Bv N J Jx x := by
  intro A c pre W hC hc hb hB h0 hN
  rw [leavesB_node x hlf] at hN ⊢
  have F := Aside0.mk ((leaf_f x.f0 x.f1 x.f2 x.f3).trans (congrArg some hlf))
  have HC := Aside0.mk hC
  have Hc := Aside0.mk hc
  have HB0 := Aside0.mk hb
  have HBX := Aside0.mk hB
  have HH := Aside0.mk (fun (W2 : World) (B2 : Below W.heap.size W W2) => ContainsFunc_inv 59 #[.pointer (some ⟨Bv, 0, none⟩)] A c x.f3 w W2
    (fun i W' => ∃ ys, exprs ys = (x.f3.take i).flatMap leavesB ∧ J (pre ++ ys) W' ∧ KpL w.heap.size n₁ W W')
    (fun i W' => ∃ ys, exprs ys <+: x.f3.flatMap leavesB ∧ Jx (pre ++ ys) W')
    hC (fun i W' ⟨ys, _, _, hk⟩ => hb.trans hk.low) (enters_of Tryd.func59 (by kernel_rfl) rfl)
    (fun i h W' A' c' ⟨ys, he, hj, hk⟩ hc' hC' => by
      have hsplit : (x.f3.take (i + 1)).flatMap leavesB = (x.f3.take i).flatMap leavesB ++ leavesB x.f3[i] := by
        rw [List.take_succ_eq_append_getElem h, List.flatMap_append]; simp
      have hpre : (x.f3.take (i + 1)).flatMap leavesB <+: x.f3.flatMap leavesB := by
        conv => rhs; rw [← List.take_append_drop (i + 1) x.f3, List.flatMap_append]
        exact List.prefix_append _ _
      have hlen := hpre.length_le
      have hel : (exprs ys).length = ys.length := by simp [exprs]
      refine (visit1_calls h01 hv hy hJ (H _ (List.getElem_mem h)) A' c' (pre ++ ys) W' hC' hc' (hb.trans hk.low) (hB.kept hk hy hv) hj ?_).mono ?_
      · rw [hsplit, List.length_append, ← he, hel] at hlen
        rw [List.length_append]
        omega
      · rintro e W3 (⟨rfl, zs, h1, h2, h3⟩ | ⟨rfl, zs, h1, h2⟩)
        · exact .inl ⟨rfl, ys ++ zs, by rw [exprs_append, he, h1, hsplit], by rw [← List.append_assoc]; exact h2, hk.trans h3⟩
        · exact .inr ⟨rfl, ys ++ zs, by
            rw [exprs_append, he]
            refine List.IsPrefix.trans ?_ hpre
            rw [hsplit]
            exact (List.prefix_append_right_inj _).2 h1, by rw [← List.append_assoc]; exact h2⟩)
    ⟨[], by simp [exprs], by simpa using hJ _ _ _ h0 B2, .of_below B2 hb.size⟩)
  clear hC hc hb hB h0 hN hlf H hJ
  go_enter Tryd.func56, Tryd.ntmps56
  go_wp2_with fail
  refine (expr_part_leaf.calls x.f0 x.f1 x.f2 A c x.f3 false _ (Kd.C_below HC.out (HB0.out.trans (Below.mono (below_alloc (Below.refl _ _) _) HB0.out.size))) Hc.out F.out).mono ?_
  rintro e W2 ⟨rfl, hb2⟩
  have B2 := Aside0.mk (below_step (below_alloc (Below.refl W.heap.size W) (.cells #[.int .i64 x.f0, .string x.f1, .string x.f2, .slice A x.f3.length c] 24)) hb2)
  have bk := blk_below (blk_new W (.cells #[.int .i64 x.f0, .string x.f1, .string x.f2, .slice A x.f3.length c] 24)) hb2
  have z3 : W2.cell? ⟨W.heap.size, 3, none⟩ = some (.slice A x.f3.length c) := (blk_cell bk 3).trans rfl
  clear hb2 bk
  go_wp2_with fail
  refine (HH.out W2 B2.out).mono ?_
  clear HH z3
  rintro e W3 (⟨rfl, ys, h1, h2, h3⟩ | ⟨i, hi, rfl, ys, h1, h2⟩)
  · have H := Aside0.mk (And.intro h1 (And.intro h2 h3))
    clear h1 h2 h3
    go_wp2
    go_ret
    exact .inl ⟨rfl, ys, by rw [H.out.1, List.take_length], H.out.2.1, H.out.2.2⟩
  · have H := Aside0.mk (And.intro h1 h2)
    clear h1 h2
    go_wp2
    go_ret
    exact .inr ⟨rfl, ys, H.out.1, H.out.2⟩
set_option maxHeartbeats 4000000 in
set_option maxRecDepth 100000 in
theorem visit_leaf {w : World} {n₁ l By Bv N : Nat} {J Jx : List (LeafV w) → World → Prop} {x : S24} (h01 : w.heap.size ≤ n₁) (hv : n₁ ≤ Bv) (hy : n₁ ≤ By)
    (hJ : ∀ s W W', J s W → Below W.heap.size W W' → J s W') (hlf : leafk x.f0 = true)
    (hY : ∀ m pre (p : LeafV w) W, J pre W → pre.length < N → YieldAt Fence.wide m Tryd.prog l #[p.val] W fun e W' =>
      (e = .returned (.bool true) ∧ J (pre ++ [p]) W' ∧ KpL w.heap.size n₁ W W') ∨ (e = .returned (.bool false) ∧ Jx (pre ++ [p]) W')) : VisitAt w n₁ l By Bv N J Jx x := by
  intro A c pre W hC hc hb hB h0 hN
  rw [leavesB_leaf x hlf] at hN ⊢
  have F := Aside0.mk ((leaf_f x.f0 x.f1 x.f2 x.f3).trans (congrArg some hlf))
  obtain ⟨p, hp1, hp2⟩ : ∃ p : LeafV w, p.val = exV x A c ∧ p.1.1 = x := ⟨⟨(x, A, c), hC, hc⟩, rfl, rfl⟩
  have HP := Aside0.mk hp2
  have HC := Aside0.mk hC
  have Hc := Aside0.mk hc
  have HB0 := Aside0.mk hb
  have HBX := Aside0.mk hB
  have hN' : pre.length < N := by simp at hN; omega
  have JJ := Aside0.mk (fun W' (h : Below W.heap.size W W') => hp1 ▸ hY 5 pre p W' (hJ _ _ _ h0 h) hN')
  clear hC hc hb h0 hN hN' hlf hY hJ hp1 hp2 hB
  refine (callsIn_wide (n := 7)).1 ?_
  refine callsIn_of_wp Tryd.func56 rfl trivial ?_ rfl
  simp only [Tryd.ntmps56, List.size_toArray, List.length_cons, List.length_nil, Nat.reduceAdd, Nat.reduceSub, Array.replicate_succ, Array.replicate_zero, List.push_toArray, List.append_toArray, List.nil_append, List.cons_append]
  gi_wp2_with fail
  refine ⟨trivial, (callsIn_wide.2 (expr_part_leaf.calls x.f0 x.f1 x.f2 A c x.f3 true _ (Kd.C_below HC.out (HB0.out.trans (Below.mono (below_alloc (Below.refl _ _) _) HB0.out.size))) Hc.out F.out)).mono ?_⟩
  rintro e W2 ⟨rfl, hb2⟩
  have B2 := Aside0.mk (below_step (below_alloc (Below.refl W.heap.size W) (.cells #[.int .i64 x.f0, .string x.f1, .string x.f2, .slice A x.f3.length c] 24)) hb2)
  have bk := blk_below (blk_new W (.cells #[.int .i64 x.f0, .string x.f1, .string x.f2, .slice A x.f3.length c] 24)) hb2
  have z0 : W2.cell? ⟨W.heap.size, 0, none⟩ = some (.int .i64 x.f0) := (blk_cell bk 0).trans rfl
  have z1 : W2.cell? ⟨W.heap.size, 1, none⟩ = some (.string x.f1) := (blk_cell bk 1).trans rfl
  have z2 : W2.cell? ⟨W.heap.size, 2, none⟩ = some (.string x.f2) := (blk_cell bk 2).trans rfl
  have z3 : W2.cell? ⟨W.heap.size, 3, none⟩ = some (.slice A x.f3.length c) := (blk_cell bk 3).trans rfl
  have zy : W2.cell? ⟨By, 0, none⟩ = some (.func (.yield l) #[] #[]) := (blk_cell (blk_below HBX.out.y B2.out) 0).trans rfl
  clear hb2 bk
  obtain ⟨fn, tmps, assign, body, hyy, hR⟩ := JJ.out W2 B2.out
  have K2 := Aside0.mk (KpL.of_below (n₁ := n₁) B2.out HB0.out.size)
  clear JJ
  gi_wp2_with fail
  refine (RoundIn_any rfl hR).mono ?_
  rintro e W3 (⟨rfl, h1, h2⟩ | ⟨rfl, h1⟩)
  · have H := Aside0.mk (And.intro h1 h2)
    clear h1 h2 hyy hR z0 z1 z2 z3 zy
    gi_wp2
    go_ret
    exact .inl ⟨rfl, [p], by simp [exprs, HP.out], H.out.1, K2.out.trans H.out.2⟩
  · have H := Aside0.mk h1
    clear h1 hyy hR z0 z1 z2 z3 zy
    gi_wp2
    go_ret
    exact .inr ⟨rfl, [p], by simp [exprs, HP.out], H.out⟩
theorem visit_all {w : World} {n₁ l By Bv N : Nat} {J Jx : List (LeafV w) → World → Prop} (h01 : w.heap.size ≤ n₁) (hv : n₁ ≤ Bv) (hy : n₁ ≤ By)
    (hJ : ∀ s W W', J s W → Below W.heap.size W W' → J s W')
    (hY : ∀ m pre (p : LeafV w) W, J pre W → pre.length < N → YieldAt Fence.wide m Tryd.prog l #[p.val] W fun e W' =>
      (e = .returned (.bool true) ∧ J (pre ++ [p]) W' ∧ KpL w.heap.size n₁ W W') ∨ (e = .returned (.bool false) ∧ Jx (pre ++ [p]) W')) : ∀ x, VisitAt w n₁ l By Bv N J Jx x := by
  intro x
  induction x using S24.ind with
  | h x ih =>
    rcases (Bool.eq_false_or_eq_true (leafk x.f0)).symm with hl | hl
    · exact visit_node h01 hv hy hJ hl ih
    · exact visit_leaf h01 hv hy hJ hl hY
abbrev exBox (x : S24) (A : Option Addr) (c : Nat) : Obj := .cells #[.int .i64 x.f0, .string x.f1, .string x.f2, .slice A x.f3.length c] 24 (0, 0)
set_option maxHeartbeats 4000000 in
set_option maxRecDepth 100000 in
theorem leaves_stops (n : Nat) (w W0 : World) (x : S24) (A : Option Addr) (c Be : Nat) (hC : Kd.C k24 w A x.f3.length x.f3) (hc : x.f3.length ≤ c) (hb : Below w.heap.size w W0) (hBe : W0.heap[Be]? = some (exBox x A c)) :
    SeqStopsK Fence.wide n Tryd.prog 55 #[.pointer (some ⟨Be, 0, none⟩)] (fun p : LeafV w => #[p.val]) (KpL w.heap.size W0.heap.size)
      (fun ys => exprs ys = leavesB x) (fun pre => exprs pre <+: leavesB x) (leavesB x).length W0 := by
  intro l J Jx W hW hJ hJx hY h0
  have hJ' : ∀ s W1 W2, J s W1 → Below W1.heap.size W1 W2 → J s W2 := fun s W1 W2 h hb => hJ s W1 W2 none h (grown_of_below hb none) (fun r e => by cases e)
  have hB : Below w.heap.size w W := hb.trans (hW.mono hb.size)
  have hvis := visit_all (w := w) (n₁ := W0.heap.size) (l := l) (By := W.heap.size) (Bv := W.heap.size + 1) (N := (leavesB x).length) hb.size (Nat.le_succ_of_le hW.size) hW.size hJ' (fun m pre p W1 hj hl => YieldAt_any rfl m (hY pre p W1 hj hl)) x A c []
  obtain ⟨o1, ho1⟩ : ∃ o, o = Obj.cells #[.func (.yield l) #[] #[]] 26 (0, 0) := ⟨_, rfl⟩
  obtain ⟨o2, ho2⟩ : ∃ o, o = Obj.cells #[.func (.func 56) #[] #[.pointer (some ⟨W.heap.size, 0, none⟩), .pointer (some ⟨W.heap.size + 1, 0, none⟩)]] 26 (0, 0) := ⟨_, rfl⟩
  have hb2 : Below W.heap.size W ((W.alloc o1).alloc o2) := ((Below.refl _ W).alloc (Nat.le_refl _) _).alloc (by simp) _
  have HV := Aside0.mk (hvis ((W.alloc o1).alloc o2) hC hc (hB.trans (hb2.mono hB.size)) ⟨by rw [← ho1]; exact blk_alloc (blk_new W o1) o2, by rw [← ho2]; have := blk_new (W.alloc o1) o2; rwa [World.size_alloc] at this⟩ (hJ' _ _ _ h0 hb2) (by simp))
  have bk := blk_below hBe hW
  have z0 : W.cell? ⟨Be, 0, none⟩ = some (.int .i64 x.f0) := (blk_cell bk 0).trans rfl
  have z1 : W.cell? ⟨Be, 1, none⟩ = some (.string x.f1) := (blk_cell bk 1).trans rfl
  have z2 : W.cell? ⟨Be, 2, none⟩ = some (.string x.f2) := (blk_cell bk 2).trans rfl
  have z3 : W.cell? ⟨Be, 3, none⟩ = some (.slice A x.f3.length c) := (blk_cell bk 3).trans rfl
  have hlt := (Array.getElem?_eq_some_iff.1 bk).1
  subst ho1 ho2
  clear hvis hC hc hb hBe hW hJ hJx hY h0 hJ' hB hb2 bk
  refine callsIn_wide.2 ?_
  go_enter Tryd.func55, Tryd.ntmps55
  go_wp2_with fail
  refine HV.out.mono ?_
  clear HV z0 z1 z2 z3
  rintro e W3 (⟨rfl, ys, h1, h2, h3⟩ | ⟨rfl, ys, h1, h2⟩)
  · have H := Aside0.mk (And.intro h1 h2)
    clear h1 h2 h3
    go_wp2
    go_end0
    exact ⟨⟨_, rfl⟩, .inl ⟨ys, H.out.1, by simpa using H.out.2⟩⟩
  · have H := Aside0.mk (And.intro h1 h2)
    clear h1 h2
    go_wp2
    go_end0
    exact ⟨⟨_, rfl⟩, .inr ⟨ys, H.out.1, by simpa using H.out.2⟩⟩
set_option maxHeartbeats 1000000 in
set_option maxRecDepth 100000 in
theorem leaves_calls (x : S24) (A : Option Addr) (c : Nat) (w : World) :
    Calls Tryd.prog 25 #[exV x A c] w fun e w' => e = .returned (.func (.func 55) #[] #[.pointer (some ⟨w.heap.size, 0, none⟩)]) ∧ w' = w.alloc (exBox x A c) := by
  go_enter Tryd.func25, Tryd.ntmps25
  go_wp2
  go_ret
  exact ⟨rfl, rfl⟩
end Go.Proofs.YtigghbfcflnoeaaDoor.Y
end
section
namespace Go.Proofs.YtigghbfcflnoeaaDoor.Y
open Go.RowKit Go.Proofs.YtigghbfcflnoeaaDoorW.PrintWords Go.Proofs.YtigghbfcflnoeaaDoorW.PrintLast Go.Proofs.YtigghbfcflnoeaaDoorW.PrintMore
attribute [local go_sem] max2_int min2_int max_two min_two max_three min_three max_four min_four
set_option linter.unusedVariables false
set_option linter.unusedSimpArgs false
abbrev mbV (x : S42) (A2 : Option Addr) (c2 : Nat) (A6 : Option Addr) (c6 : Nat) : Value := .agg #[.string x.f0, .int .i64 x.f1, .slice A2 x.f2.length c2, .int .i64 x.f3.f0, .string x.f3.f1, .string x.f3.f2, .slice A6 x.f3.f3.length c6]
abbrev MemV (w : World) (L : List (ByteArray × S42)) := { p : ByteArray × S42 × Option Addr × Nat × Option Addr × Nat // Kd.C k44 w p.2.2.1 p.2.1.f2.length p.2.1.f2 ∧ p.2.1.f2.length ≤ p.2.2.2.1 ∧ Kd.C k24 w p.2.2.2.2.1 p.2.1.f3.f3.length p.2.1.f3.f3 ∧ p.2.1.f3.f3.length ≤ p.2.2.2.2.2 ∧ (p.1, p.2.1) ∈ L }
def MemV.val {w : World} {L : List (ByteArray × S42)} (p : MemV w L) : Value := mbV p.1.2.1 p.1.2.2.1 p.1.2.2.2.1 p.1.2.2.2.2.1 p.1.2.2.2.2.2
def mems {w : World} {L : List (ByteArray × S42)} (ys : List (MemV w L)) : List (ByteArray × S42) := ys.map fun y => (y.1.1, y.1.2.1)
theorem mems_append {w : World} {L : List (ByteArray × S42)} (xs ys : List (MemV w L)) : mems (xs ++ ys) = mems xs ++ mems ys := by simp [mems]
theorem mems_len {w : World} {L : List (ByteArray × S42)} (xs : List (MemV w L)) : (mems xs).length = xs.length := by simp [mems]
def memD (d : S81) : List (ByteArray × S42) := d.f1.map fun m => (d.f0, m)
def allM (l : List S81) : List (ByteArray × S42) := l.flatMap memD
theorem allM_snoc {l : List S81} {k : Nat} (h : k < l.length) : allM (l.take (k + 1)) = allM (l.take k) ++ memD l[k] := by
  rw [allM, List.take_succ_eq_append_getElem h, List.flatMap_append]; simp [allM]
theorem allM_pre (l : List S81) (k : Nat) : allM (l.take k) <+: allM l := by
  conv => rhs; rw [allM, ← List.take_append_drop k l, List.flatMap_append]
  exact List.prefix_append _ _
theorem memD_snoc {d : S81} {j : Nat} (h : j < d.f1.length) : (d.f1.take (j + 1)).map (fun m => (d.f0, m)) = (d.f1.take j).map (fun m => (d.f0, m)) ++ [(d.f0, d.f1[j])] := by
  rw [List.take_succ_eq_append_getElem h, List.map_append]; rfl
theorem memD_pre {l : List S81} {k : Nat} (h : k < l.length) (j : Nat) : allM (l.take k) ++ (l[k].f1.take j).map (fun m => (l[k].f0, m)) <+: allM l := by
  refine List.IsPrefix.trans ?_ (allM_pre l (k + 1))
  rw [allM_snoc h]
  refine (List.prefix_append_right_inj _).2 ?_
  unfold memD
  conv => rhs; rw [← List.take_append_drop j l[k].f1, List.map_append]
  exact List.prefix_append _ _
abbrev dfBox (d : S81) (A : Option Addr) (c : Nat) : Obj := .cells #[.string d.f0, .slice A d.f1.length c] 81 (0, 0)
abbrev mbBox (x : S42) (A2 : Option Addr) (c2 : Nat) (A6 : Option Addr) (c6 : Nat) : Obj := .cells #[.string x.f0, .int .i64 x.f1, .slice A2 x.f2.length c2, .int .i64 x.f3.f0, .string x.f3.f1, .string x.f3.f2, .slice A6 x.f3.f3.length c6] 42 (0, 0)
structure OutR (w W wr : World) (l : List S81) (k : Nat) (J : List (MemV w (allM l)) → World → Prop) (pre : List (MemV w (allM l))) : Prop where
  m : mems pre = allM (l.take k)
  j : J pre wr
  b : Below w.heap.size w wr
  s : W.heap.size ≤ wr.heap.size
structure InR (w W wr : World) (l : List S81) (k : Nat) (d : S81) (D : Nat) (A : Option Addr) (c : Nat) (i : Nat) (J : List (MemV w (allM l)) → World → Prop) (pre : List (MemV w (allM l))) : Prop where
  m : mems pre = allM (l.take k) ++ (d.f1.take i).map (fun m => (d.f0, m))
  j : J pre wr
  b : Below w.heap.size w wr
  s : W.heap.size ≤ D
  d : wr.heap[D]? = some (dfBox d A c)
theorem meas_ltM {k n : Nat} (h : k < n) : n - (intOf (.int .i64 ((k : Int) + 1))).toNat < n - (intOf (.int .i64 (k : Int))).toNat := by
  show n - ((k : Int) + 1).toNat < n - ((k : Int)).toNat
  omega
theorem wrap_ok2 {x : Int} (h0 : -9223372036854775808 ≤ x) (h : x ≤ 9223372036854775807) : wrap64 x = x := by
  unfold wrap64
  omega
theorem rd81 {l : List S81} {k : Nat} (h : k < l.length) : rd_T81 l (k : Int) = l[k] := by simp [rd_T81, List.getD_eq_getElem?_getD, List.getElem?_eq_getElem h]
theorem rd42 {l : List S42} {k : Nat} (h : k < l.length) : rd_T42 l (k : Int) = l[k] := by simp [rd_T42, List.getD_eq_getElem?_getD, List.getElem?_eq_getElem h]
attribute [local go_sem] Oper.semAt_some
set_option maxHeartbeats 8000000 in
set_option maxRecDepth 100000 in
theorem members_stops (n : Nat) (w W0 : World) (l : List S81) (A : Option Addr) (c Be : Nat) (hC : Kd.C k81 w A l.length l) (hb : Below w.heap.size w W0) (hBe : W0.heap[Be]? = some (.cells #[.slice A l.length c] 59 (0, 0))) :
    SeqStopsK Fence.wide n Tryd.prog 103 #[.pointer (some ⟨Be, 0, none⟩)] (fun p : MemV w (allM l) => #[.string p.1.1, p.val]) (KpL w.heap.size W0.heap.size)
      (fun ys => mems ys = allM l) (fun pre => mems pre <+: allM l) (allM l).length W0 := by
  intro l' J Jx W hW hJ hJx hY h0
  have hJ' : ∀ s W1 W2, J s W1 → Below W1.heap.size W1 W2 → J s W2 := fun s W1 W2 h hb => hJ s W1 W2 none h (grown_of_below hb none) (fun r e => by cases e)
  have hB : Below w.heap.size w W := hb.trans (hW.mono hb.size)
  have bk := blk_below hBe hW
  have z0 : W.cell? ⟨Be, 0, none⟩ = some (.slice A l.length c) := (blk_cell bk 0).trans rfl
  have HC := Aside0.mk hC
  have HY := Aside0.mk hY
  have HJ := Aside0.mk hJ'
  have HS := Aside0.mk hW.size
  have H0 := Aside0.mk (show OutR w W W l 0 J [] from ⟨by simp [mems, allM], h0, hB, Nat.le_refl _⟩)
  have hmax : l.length ≤ 9223372036854775807 := hC.2.1
  clear hC hb hBe hW hJ hJx hY h0 hJ' hB bk
  refine callsIn_of_wp Tryd.func103 rfl trivial ?_ rfl
  simp only [Tryd.ntmps103, List.size_toArray, List.length_cons, List.length_nil, Nat.reduceAdd, Nat.reduceSub, Array.replicate_succ, Array.replicate_zero, List.push_toArray, List.append_toArray, List.nil_append, List.cons_append]
  gi_wp2_with fail
  gi_loopw [10] (fun v wr => ∃ (k : Nat) (pre : List (MemV w (allM l))), v = .int .i64 k ∧ k ≤ l.length ∧ Aside0 (OutR w W wr l k J pre)) (fun v _ => l.length - (intOf v).toNat)
  case atStart => exact ⟨0, [], rfl, Nat.zero_le _, H0⟩
  case round =>
    clear H0 z0
    obtain ⟨k, pre, rfl, hk, hO⟩ := hrel
    by_cases hlt : k < l.length
    · obtain ⟨W1, hW1⟩ : ∃ W1, W1 = wr := ⟨_, rfl⟩
      subst hW1
      obtain ⟨ad, A1, c1, e3, x0, x1, hl1, hC1⟩ := at_T81 HC.out (k : Int) (by omega) (by omega)
      rw [rd81 hlt] at x0 x1 hl1 hC1
      simp only [Int.toNat_natCast] at x0 x1
      cases e3
      obtain ⟨d, hd⟩ : ∃ d, l[k] = d := ⟨_, rfl⟩
      rw [hd] at x0 x1 hl1 hC1
      have HD := Aside0.mk hd
      clear hd
      replace x0 := (hO.out.b.cell (World.block_lt_of_cell? w _ x0)).trans x0
      replace x1 := (hO.out.b.cell (World.block_lt_of_cell? w _ x1)).trans x1
      have HO2 := Aside0.mk (show InR w W (W1.alloc (dfBox d A1 c1)) l k d W1.heap.size A1 c1 0 J pre from
        ⟨by rw [hO.out.m]; simp, HJ.out _ _ _ hO.out.j (below_alloc (Below.refl _ _) _), hO.out.b.trans ((below_alloc (Below.refl _ _) _).mono hO.out.b.size), hO.out.s, blk_new _ _⟩)
      have HC1 := Aside0.mk hC1
      have HM := Aside0.mk hC1.2.1
      have p0 : (0 ≤ (k : Int)) = True := eq_true (by omega)
      have p1 : ((k : Int) < (l.length : Int)) = True := eq_true (by omega)
      have qi : (k < l.length) = True := eq_true hlt
      clear hl1 hC1 hO
      have HLT := Aside0.mk hlt
      gi_wp2_with fail
      gi_loopw [17] (fun v wi => ∃ (i : Nat) (pi : List (MemV w (allM l))), v = .int .i64 i ∧ i ≤ d.f1.length ∧ Aside0 (InR w W wi l k d W1.heap.size A1 c1 i J pi)) (fun v _ => d.f1.length - (intOf v).toNat)
      case atStart => exact ⟨0, pre, rfl, Nat.zero_le _, HO2⟩
      case round =>
        clear HO2 x0 x1
        obtain ⟨i, pi, rfl, hi, hI⟩ := hrel
        have hmd := HM.out
        by_cases hlti : i < d.f1.length
        · obtain ⟨W2, hW2⟩ : ∃ W2, W2 = wr := ⟨_, rfl⟩
          subst hW2
          obtain ⟨am, A2, c2, A6, c6, e4, y0, y1, y2, y3, y4, y5, y6, l2, g2, l6, g6⟩ := at_T42 HC1.out (i : Int) (by omega) (by omega)
          rw [rd42 hlti] at y0 y1 y2 y3 y4 y5 y6 l2 g2 l6 g6
          simp only [Int.toNat_natCast] at y0 y1 y2 y3 y4 y5 y6
          cases e4
          obtain ⟨m, hm⟩ : ∃ m, d.f1[i] = m := ⟨_, rfl⟩
          rw [hm] at y0 y1 y2 y3 y4 y5 y6 l2 g2 l6 g6
          have HMI := Aside0.mk hm
          clear hm
          have hbb := hI.out.b
          replace y0 := (hbb.cell (World.block_lt_of_cell? w _ y0)).trans y0
          replace y1 := (hbb.cell (World.block_lt_of_cell? w _ y1)).trans y1
          replace y2 := (hbb.cell (World.block_lt_of_cell? w _ y2)).trans y2
          replace y3 := (hbb.cell (World.block_lt_of_cell? w _ y3)).trans y3
          replace y4 := (hbb.cell (World.block_lt_of_cell? w _ y4)).trans y4
          replace y5 := (hbb.cell (World.block_lt_of_cell? w _ y5)).trans y5
          replace y6 := (hbb.cell (World.block_lt_of_cell? w _ y6)).trans y6
          obtain ⟨p, hp1, hp2⟩ : ∃ p : MemV w (allM l), #[Value.string p.1.1, p.val] = #[.string d.f0, mbV m A2 c2 A6 c6] ∧ (p.1.1, p.1.2.1) = (d.f0, m) := ⟨⟨(d.f0, m, A2, c2, A6, c6), g2, l2, g6, l6, List.mem_flatMap.2 ⟨d, HD.out ▸ List.getElem_mem HLT.out, List.mem_map.2 ⟨m, HMI.out ▸ List.getElem_mem hlti, rfl⟩⟩⟩, rfl, rfl⟩
          have HP := Aside0.mk hp2
          have hk2 := below_alloc (Below.refl W2.heap.size W2) (mbBox m A2 c2 A6 c6)
          have hlen : pi.length < (allM l).length := by
            have h1 := (memD_pre HLT.out (i + 1)).length_le
            have h2 := congrArg List.length hI.out.m
            rw [mems_len, List.length_append, List.length_map, List.length_take] at h2
            rw [HD.out, List.length_append, List.length_map, List.length_take] at h1
            omega
          have HYY := Aside0.mk (hp1 ▸ HY.out pi p (W2.alloc (mbBox m A2 c2 A6 c6)) (HJ.out _ _ _ hI.out.j hk2) hlen)
          have zd : (W2.alloc (mbBox m A2 c2 A6 c6)).cell? ⟨W1.heap.size, 0, none⟩ = some (.string d.f0) := (blk_cell (blk_alloc hI.out.d _) 0).trans rfl
          have hlt1 := (Array.getElem?_eq_some_iff.1 hI.out.d).1
          have HLI := Aside0.mk hlti
          have HI := Aside0.mk hI.out
          have p2 : (0 ≤ (i : Int)) = True := eq_true (by omega)
          have p3 : ((i : Int) < (d.f1.length : Int)) = True := eq_true (by omega)
          have qj : (i < d.f1.length) = True := eq_true hlti
          clear l2 g2 l6 g6 hbb hp1 hp2 hk2 hlen hI
          obtain ⟨fn, tmps, assign, body, hyy, hR⟩ := YieldAt_any rfl n HYY.out
          clear HYY
          gi_wp2_with fail
          refine ⟨(fun h => by cases h), (RoundIn_any rfl hR).mono ?_⟩
          clear y0 y1 y2 y3 y4 y5 y6 zd hyy hR hlt1
          have hmp : mems (pi ++ [p]) = allM (l.take k) ++ (d.f1.take (i + 1)).map (fun m => (d.f0, m)) := by
            rw [mems_append, HI.out.m, memD_snoc HLI.out, HMI.out, List.append_assoc]
            exact congrArg (fun x => _ ++ (_ ++ [x])) HP.out
          have HMP := Aside0.mk hmp
          clear hmp
          rintro e W3 (⟨rfl, h1, h2⟩ | ⟨rfl, h1⟩)
          · have hw1 : wrap64 ((i : Int) + 1) = (i : Int) + 1 := wrap_ok2 (by omega) (by omega)
            have HN := Aside0.mk (show InR w W W3 l k d W1.heap.size (some am) c1 (i + 1) J (pi ++ [p]) from ⟨HMP.out, h1, (HI.out.b.trans ((below_alloc (Below.refl _ _) _).mono HI.out.b.size)).trans h2.low, HI.out.s, h2.blk (Nat.le_trans HS.out HI.out.s) (blk_alloc HI.out.d _)⟩)
            clear h1 h2
            gi_wp2
            go_roundw
            case rel => exact ⟨i + 1, pi ++ [p], by go_num, HLI.out, HN⟩
            case measure => first | exact meas_ltM HLI.out | (rw [hw1]; exact meas_ltM HLI.out)
          · have H1 := Aside0.mk h1
            clear h1
            gi_wp2
            refine bodyPost_ret (results_none rfl _ _ _) rfl ?_
            exact ⟨⟨_, rfl⟩, .inr ⟨pi ++ [p], by rw [HMP.out]; have := memD_pre HLT.out (i + 1); rwa [HD.out] at this, H1.out⟩⟩
        · have hie : i = d.f1.length := by omega
          have q1 : ((i : Int) < (d.f1.length : Int)) = False := eq_false (by omega)
          have hw1 : wrap64 ((k : Int) + 1) = (k : Int) + 1 := wrap_ok2 (by omega) (by omega)
          have HN := Aside0.mk (show OutR w W wr l (k + 1) J pi from ⟨by rw [hI.out.m, allM_snoc HLT.out, hie, HD.out, List.take_length]; rfl, hI.out.j, hI.out.b, Nat.le_trans hI.out.s (Nat.le_of_lt (Array.getElem?_eq_some_iff.1 hI.out.d).1)⟩)
          clear hie hI
          gi_wp2
          go_roundw
          case rel => exact ⟨k + 1, pi, by go_num, HLT.out, HN⟩
          case measure => first | exact meas_ltM HLT.out | (rw [hw1]; exact meas_ltM HLT.out)
    · have hke : k = l.length := by omega
      have q1 : ((k : Int) < (l.length : Int)) = False := eq_false (by omega)
      have HE := Aside0.mk hke
      clear hke
      gi_wp2
      go_end0
      exact ⟨⟨_, rfl⟩, .inl ⟨pre, by rw [hO.out.m, HE.out, List.take_length], hO.out.j⟩⟩
end Go.Proofs.YtigghbfcflnoeaaDoor.Y
end
section
namespace Go.Proofs.YtigghbfcflnoeaaDoor.Y
open Go.RowKit Go.Proofs.YtigghbfcflnoeaaDoorW.PrintWords Go.Proofs.YtigghbfcflnoeaaDoorW.PrintLast Go.Proofs.YtigghbfcflnoeaaDoorW.PrintMore
attribute [local go_sem] max2_int min2_int max_two min_two max_three min_three max_four min_four
set_option linter.unusedVariables false
set_option linter.unusedSimpArgs false
def idxI (o : Option Nat) : Int := match o with | some i => (i : Int) | none => -1
theorem idx_none {α : Type} {l : List α} {p : α → Bool} (h : ∀ i (hi : i < l.length), p l[i] = false) : l.findIdx? p = none := by
  rw [List.findIdx?_eq_none_iff]
  intro x hx
  obtain ⟨i, hi, rfl⟩ := List.mem_iff_getElem.1 hx
  exact h i hi
theorem idx_some {α : Type} {l : List α} {p : α → Bool} {k : Nat} (hk : k < l.length) (hp : p l[k] = true) (h : ∀ i (hi : i < k), p (l[i]'(Nat.lt_trans hi hk)) = false) : l.findIdx? p = some k := by
  rw [List.findIdx?_eq_some_iff_getElem]
  exact ⟨hk, hp, fun j hj => by rw [h j hj]; simp⟩
theorem find_idx {α : Type} (l : List α) (p : α → Bool) : (l.findIdx? p = none ∧ l.find? p = none) ∨ ∃ k, ∃ hk : k < l.length, l.findIdx? p = some k ∧ l.find? p = some l[k] := by
  cases h : l.findIdx? p with
  | none =>
    refine .inl ⟨rfl, ?_⟩
    rw [List.findIdx?_eq_none_iff] at h
    rw [List.find?_eq_none]
    intro x hx
    rw [h x hx]
    simp
  | some k =>
    obtain ⟨hk, hp, hj⟩ := List.findIdx?_eq_some_iff_getElem.1 h
    refine .inr ⟨k, hk, rfl, ?_⟩
    rw [List.find?_eq_some_iff_getElem]
    exact ⟨hp, k, hk, rfl, fun j hji => by have := hj j hji; simpa using this⟩
theorem blkc {w : World} {B : Nat} {v : Value} {t : TypeId} (h : w.heap[B]? = some (.cells #[v] t (0, 0))) : w.cell? ⟨B, 0, none⟩ = some v := (blk_cell h 0).trans rfl
set_option maxHeartbeats 4000000 in
set_option maxRecDepth 100000 in
theorem clo132 (x : S81) (A1 : Option Addr) (c1 : Nat) (B : Nat) (s : ByteArray) (w : World) (hB : w.heap[B]? = some (.cells #[.string s] 9 (0, 0))) :
    Calls Tryd.prog 132 #[.agg #[.string x.f0, .slice A1 x.f1.length c1], .pointer (some ⟨B, 0, none⟩)] w fun e w' => e = .returned (.bool (x.f0.toList == s.toList)) ∧ Below w.heap.size w w' := by
  have z : (w.alloc (.cells #[.string x.f0, .slice A1 x.f1.length c1] 81)).cell? ⟨B, 0, none⟩ = some (.string s) := blkc (blk_alloc hB _)
  have hlt := (Array.getElem?_eq_some_iff.1 hB).1
  clear hB
  go_enter Tryd.func132, Tryd.ntmps132
  go_wp2
  go_ret
  exact ⟨rfl, below_alloc (Below.refl _ _) _⟩
set_option maxHeartbeats 4000000 in
set_option maxRecDepth 100000 in
theorem idx81 (l : List S81) (A : Option Addr) (c B : Nat) (s : ByteArray) (w : World) (hC : Kd.C k81 w A l.length l) (hB : w.heap[B]? = some (.cells #[.string s] 9 (0, 0))) :
    Calls Tryd.prog 153 #[.slice A l.length c, .func (.func 132) #[] #[.pointer (some ⟨B, 0, none⟩)]] w fun e w' => e = .returned (.int .i64 (idxI (l.findIdx? fun x => x.f0.toList == s.toList))) ∧ Below w.heap.size w w' := by
  have hmax : l.length ≤ 9223372036854775807 := hC.2.1
  have HC := Aside0.mk hC
  have HB := Aside0.mk hB
  clear hC hB
  go_enter Tryd.func153, Tryd.ntmps153
  go_wp2_with fail
  go_loopw [8] (fun v8 wr => ∃ k : Nat, v8 = .int .i64 k ∧ k ≤ l.length ∧ Aside0 (Below w.heap.size w wr ∧ ∀ i (hi : i < l.length), i < k → (l[i].f0.toList == s.toList) = false)) (fun v8 _ => l.length - (intOf v8).toNat)
  case atStart => exact ⟨0, rfl, Nat.zero_le _, ⟨Below.refl _ _, fun i _ h => by omega⟩⟩
  case round =>
    obtain ⟨k, rfl, hk, hA⟩ := hrel
    by_cases hlt : k < l.length
    · obtain ⟨ad, A1, c1, e3, x0, x1, l1, g1⟩ := at_T81 HC.out (k : Int) (by omega) (by omega)
      rw [rd81 hlt] at x0 x1 l1 g1
      simp only [Int.toNat_natCast] at x0 x1
      cases e3
      obtain ⟨x, hx⟩ : ∃ x, l[k] = x := ⟨_, rfl⟩
      rw [hx] at x0 x1 l1 g1
      have HX := Aside0.mk hx
      clear hx
      replace x0 := (hA.out.1.cell (World.block_lt_of_cell? w _ x0)).trans x0
      replace x1 := (hA.out.1.cell (World.block_lt_of_cell? w _ x1)).trans x1
      have hcall := clo132 x A1 c1 B s wr (blk_below HB.out hA.out.1)
      clear l1 g1
      have HCALL := Aside0.mk hcall
      have HLT := Aside0.mk hlt
      have p0 : (0 ≤ (k : Int)) = True := eq_true (by omega)
      have p1 : ((k : Int) < (l.length : Int)) = True := eq_true (by omega)
      have qi : (k < l.length) = True := eq_true hlt
      clear hcall
      go_wp2_with fail
      refine HCALL.out.mono ?_
      clear HCALL x0 x1
      rintro e w' ⟨rfl, hb⟩
      have HB2 := Aside0.mk (hA.out.1.trans (hb.mono hA.out.1.size))
      have HA := Aside0.mk hA.out.2
      clear hb hA
      by_cases he : (x.f0.toList == s.toList) = true
      · rw [he]
        have HE := Aside0.mk he
        clear he
        go_wp2
        go_ret
        refine ⟨?_, HB2.out⟩
        rw [idx_some HLT.out (by rw [HX.out]; exact HE.out) (fun i hi => HA.out i (Nat.lt_trans hi HLT.out) hi)]
        rfl
      · replace he := Bool.eq_false_iff.mpr he
        rw [he]
        have HE := Aside0.mk he
        have hw1 : wrap64 ((k : Int) + 1) = (k : Int) + 1 := wrap_ok2 (by omega) (by omega)
        clear he
        go_wp2
        go_roundw
        case rel => exact ⟨k + 1, by go_num, HLT.out, ⟨HB2.out, fun i hi h => by
          rcases Nat.lt_succ_iff_lt_or_eq.1 h with h | h
          · exact HA.out i hi h
          · subst h; rw [HX.out]; exact HE.out⟩⟩
        case measure => first | exact meas_ltM HLT.out | (rw [hw1]; exact meas_ltM HLT.out)
    · have hke : k = l.length := by omega
      have HA := Aside0.mk (show (Below w.heap.size w wr ∧ l.findIdx? (fun x => x.f0.toList == s.toList) = none) from ⟨hA.out.1, idx_none (fun i hi => hA.out.2 i hi (by omega))⟩)
      have q1 : ((k : Int) < (l.length : Int)) = False := eq_false (by omega)
      clear hA hke
      go_wp2
      go_ret
      exact ⟨by rw [HA.out.2]; rfl, HA.out.1⟩
set_option maxHeartbeats 4000000 in
set_option maxRecDepth 100000 in
theorem clo96 (x : S42) (A2 : Option Addr) (c2 : Nat) (A6 : Option Addr) (c6 : Nat) (B : Nat) (s : ByteArray) (w : World) (hB : w.heap[B]? = some (.cells #[.string s] 9 (0, 0))) :
    Calls Tryd.prog 96 #[.agg #[.string x.f0, .int .i64 x.f1, .slice A2 x.f2.length c2, .int .i64 x.f3.f0, .string x.f3.f1, .string x.f3.f2, .slice A6 x.f3.f3.length c6], .pointer (some ⟨B, 0, none⟩)] w fun e w' => e = .returned (.bool (x.f0.toList == s.toList)) ∧ Below w.heap.size w w' := by
  have z : (w.alloc (.cells #[.string x.f0, .int .i64 x.f1, .slice A2 x.f2.length c2, .int .i64 x.f3.f0, .string x.f3.f1, .string x.f3.f2, .slice A6 x.f3.f3.length c6] 42)).cell? ⟨B, 0, none⟩ = some (.string s) := blkc (blk_alloc hB _)
  have hlt := (Array.getElem?_eq_some_iff.1 hB).1
  clear hB
  go_enter Tryd.func96, Tryd.ntmps96
  go_wp2
  go_ret
  exact ⟨rfl, below_alloc (Below.refl _ _) _⟩
set_option maxHeartbeats 4000000 in
set_option maxRecDepth 100000 in
theorem idx42 (l : List S42) (A : Option Addr) (c B : Nat) (s : ByteArray) (w : World) (hC : Kd.C k42 w A l.length l) (hB : w.heap[B]? = some (.cells #[.string s] 9 (0, 0))) :
    Calls Tryd.prog 133 #[.slice A l.length c, .func (.func 96) #[] #[.pointer (some ⟨B, 0, none⟩)]] w fun e w' => e = .returned (.int .i64 (idxI (l.findIdx? fun x => x.f0.toList == s.toList))) ∧ Below w.heap.size w w' := by
  have hmax : l.length ≤ 9223372036854775807 := hC.2.1
  have HC := Aside0.mk hC
  have HB := Aside0.mk hB
  clear hC hB
  go_enter Tryd.func133, Tryd.ntmps133
  go_wp2_with fail
  go_loopw [8] (fun v8 wr => ∃ k : Nat, v8 = .int .i64 k ∧ k ≤ l.length ∧ Aside0 (Below w.heap.size w wr ∧ ∀ i (hi : i < l.length), i < k → (l[i].f0.toList == s.toList) = false)) (fun v8 _ => l.length - (intOf v8).toNat)
  case atStart => exact ⟨0, rfl, Nat.zero_le _, ⟨Below.refl _ _, fun i _ h => by omega⟩⟩
  case round =>
    obtain ⟨k, rfl, hk, hA⟩ := hrel
    by_cases hlt : k < l.length
    · obtain ⟨ad, A2, c2, A6, c6, e3, x0, x1, x2, x3, x4, x5, x6, l2, g2, l6, g6⟩ := at_T42 HC.out (k : Int) (by omega) (by omega)
      rw [rd42 hlt] at x0 x1 x2 x3 x4 x5 x6 l2 g2 l6 g6
      simp only [Int.toNat_natCast] at x0 x1 x2 x3 x4 x5 x6
      cases e3
      obtain ⟨x, hx⟩ : ∃ x, l[k] = x := ⟨_, rfl⟩
      rw [hx] at x0 x1 x2 x3 x4 x5 x6 l2 g2 l6 g6
      have HX := Aside0.mk hx
      clear hx
      replace x0 := (hA.out.1.cell (World.block_lt_of_cell? w _ x0)).trans x0
      replace x1 := (hA.out.1.cell (World.block_lt_of_cell? w _ x1)).trans x1
      replace x2 := (hA.out.1.cell (World.block_lt_of_cell? w _ x2)).trans x2
      replace x3 := (hA.out.1.cell (World.block_lt_of_cell? w _ x3)).trans x3
      replace x4 := (hA.out.1.cell (World.block_lt_of_cell? w _ x4)).trans x4
      replace x5 := (hA.out.1.cell (World.block_lt_of_cell? w _ x5)).trans x5
      replace x6 := (hA.out.1.cell (World.block_lt_of_cell? w _ x6)).trans x6
      have hcall := clo96 x A2 c2 A6 c6 B s wr (blk_below HB.out hA.out.1)
      clear l2 g2 l6 g6
      have HCALL := Aside0.mk hcall
      have HLT := Aside0.mk hlt
      have p0 : (0 ≤ (k : Int)) = True := eq_true (by omega)
      have p1 : ((k : Int) < (l.length : Int)) = True := eq_true (by omega)
      have qi : (k < l.length) = True := eq_true hlt
      clear hcall
      go_wp2_with fail
      refine HCALL.out.mono ?_
      clear HCALL x0 x1 x2 x3 x4 x5 x6
      rintro e w' ⟨rfl, hb⟩
      have HB2 := Aside0.mk (hA.out.1.trans (hb.mono hA.out.1.size))
      have HA := Aside0.mk hA.out.2
      clear hb hA
      by_cases he : (x.f0.toList == s.toList) = true
      · rw [he]
        have HE := Aside0.mk he
        clear he
        go_wp2
        go_ret
        refine ⟨?_, HB2.out⟩
        rw [idx_some HLT.out (by rw [HX.out]; exact HE.out) (fun i hi => HA.out i (Nat.lt_trans hi HLT.out) hi)]
        rfl
      · replace he := Bool.eq_false_iff.mpr he
        rw [he]
        have HE := Aside0.mk he
        have hw1 : wrap64 ((k : Int) + 1) = (k : Int) + 1 := wrap_ok2 (by omega) (by omega)
        clear he
        go_wp2
        go_roundw
        case rel => exact ⟨k + 1, by go_num, HLT.out, ⟨HB2.out, fun i hi h => by
          rcases Nat.lt_succ_iff_lt_or_eq.1 h with h | h
          · exact HA.out i hi h
          · subst h; rw [HX.out]; exact HE.out⟩⟩
        case measure => first | exact meas_ltM HLT.out | (rw [hw1]; exact meas_ltM HLT.out)
    · have hke : k = l.length := by omega
      have HA := Aside0.mk (show (Below w.heap.size w wr ∧ l.findIdx? (fun x => x.f0.toList == s.toList) = none) from ⟨hA.out.1, idx_none (fun i hi => hA.out.2 i hi (by omega))⟩)
      have q1 : ((k : Int) < (l.length : Int)) = False := eq_false (by omega)
      clear hA hke
      go_wp2
      go_ret
      exact ⟨by rw [HA.out.2]; rfl, HA.out.1⟩
theorem put81 {W : World} {g : Nat} {a0 a1 v0 v1 : Value} (hb : W.heap[g]? = some (.cells #[a0, a1] 81 (0, 0))) : ((W.setCell ⟨g, 0, none⟩ v0).setCell ⟨g, 1, none⟩ v1).heap[g]? = some (.cells #[v0, v1] 81 (0, 0)) := by
  have h0 := blk_put hb 0 v0 rfl
  have h1 := blk_put h0 1 v1 rfl
  simpa using h1
theorem putb81 {w0 : Nat} {w W : World} {g : Nat} {v0 v1 : Value} (hb : Below w0 w W) (hg : w0 ≤ g) : Below w0 w ((W.setCell ⟨g, 0, none⟩ v0).setCell ⟨g, 1, none⟩ v1) :=
  ((hb.setCell (p := ⟨g, 0, none⟩) hg v0).setCell (p := ⟨g, 1, none⟩) hg v1)
theorem results131 (tmps : Array Value) (w : World) (g : Nat) (b : Bool) (v0 v1 : Value) (h1 : tmps.getD 4 undef = .pointer (some ⟨g, 0, none⟩)) (h2 : tmps.getD 5 undef = .bool b)
    (hb : w.heap[g]? = some (.cells #[v0, v1] 81 (0, 0))) : (results Tryd.f131 tmps).run Tryd.prog w = .ok (.tuple #[.agg #[v0, v1], .bool b]) w := by
  have h : Tryd.f131.results = #[.cell 4 81, .tmp 5] := rfl
  have h1' : tmps[4]?.getD undef = .pointer (some ⟨g, 0, none⟩) := by simpa using h1
  have h2' : tmps[5]?.getD undef = .bool b := by simpa using h2
  have c0 : w.cell? ⟨g, 0, none⟩ = some v0 := (blk_cell hb 0).trans rfl
  have c1 : w.cell? ⟨g, 1, none⟩ = some v1 := (blk_cell hb 1).trans rfl
  simp only [results, h]
  simp [h1', h2', asAddr]
  go_simp
set_option maxHeartbeats 4000000 in
set_option maxRecDepth 100000 in
theorem first81 (l : List S81) (A : Option Addr) (c B : Nat) (s : ByteArray) (P : Nat → Prop) (w : World) (hF : Kd.F k81 w P A l.length l) (hB : w.heap[B]? = some (.cells #[.string s] 9 (0, 0))) (d : S81) (b : Bool)
    (hd : (l.find? fun x => x.f0.toList == s.toList).getD z81 = d) (hb : (l.find? fun x => x.f0.toList == s.toList).isSome = b) :
    Calls Tryd.prog 131 #[.slice A l.length c, .func (.func 132) #[] #[.pointer (some ⟨B, 0, none⟩)]] w fun e w' => ∃ (A1 : Option Addr) (c1 : Nat), e = .returned (.tuple #[.agg #[.string d.f0, .slice A1 d.f1.length c1], .bool b]) ∧ d.f1.length ≤ c1 ∧ Kd.F k42 w' P A1 d.f1.length d.f1 ∧ Below w.heap.size w w' := by
  obtain ⟨w2, hw2⟩ : ∃ w2, (w.alloc (.cells #[.string ⟨#[]⟩, .slice none 0 0] 81)).alloc (.cells #[.string ⟨#[]⟩, .slice none 0 0] 81) = w2 := ⟨_, rfl⟩
  have hb2 : Below w.heap.size w w2 := by rw [← hw2]; exact ((Below.refl _ w).alloc (Nat.le_refl _) _).alloc (by simp) _
  have hC2 := Kd.F_now (Kd.F_below hF hb2)
  have HI := Aside0.mk (idx81 l A c B s w2 hC2 (blk_below hB hb2))
  have ho2 : w2.heap[w.heap.size]? = some (.cells #[.string ⟨#[]⟩, .slice none 0 0] 81 (0, 0)) := by rw [← hw2]; exact blk_alloc (blk_new _ _) _
  have hn2 : w2.heap[w.heap.size + 1]? = some (.cells #[.string ⟨#[]⟩, .slice none 0 0] 81 (0, 0)) := by
    rw [← hw2]; have := blk_new (w.alloc (.cells #[.string ⟨#[]⟩, .slice none 0 0] 81)) (.cells #[.string ⟨#[]⟩, .slice none 0 0] 81); rwa [World.size_alloc] at this
  have HO2 := Aside0.mk ho2
  have HN2 := Aside0.mk hn2
  have HB2 := Aside0.mk hb2
  have HF := Aside0.mk hF
  have hmax : l.length ≤ 9223372036854775807 := (Kd.F_now hF).2.1
  clear hF hB hC2 hb2 ho2 hn2
  rcases find_idx l (fun x => x.f0.toList == s.toList) with ⟨h1, h2⟩ | ⟨k, hk, h1, h2⟩
  · have HI2 := Aside0.mk (show Calls Tryd.prog _ _ w2 (fun e w' => e = .returned (.int .i64 (-1)) ∧ Below w2.heap.size w2 w') from by have := HI.out; rw [h1] at this; exact this)
    rw [h2] at hd hb
    obtain rfl : z81 = d := hd
    obtain rfl : false = b := hb
    clear HI h1 h2
    go_enter Tryd.func131, Tryd.ntmps131
    go_wp2_with fail
    (try rw [hw2])
    clear hw2
    refine HI2.out.mono ?_
    rintro e W ⟨rfl, hbb⟩
    have ho := blk_below HO2.out hbb
    have hn := blk_below HN2.out hbb
    have hbW := HB2.out.trans (hbb.mono HB2.out.size)
    have r0 : W.cell? ⟨w.heap.size + 1, 0, none⟩ = some (.string ⟨#[]⟩) := (blk_cell hn 0).trans rfl
    have o0 : W.cell? ⟨w.heap.size, 0, none⟩ = some (.string ⟨#[]⟩) := (blk_cell ho 0).trans rfl
    have f0 := blk_frozen ho 0
    have r1 : W.cell? ⟨w.heap.size + 1, 1, none⟩ = some (.slice none 0 0) := (blk_cell hn 1).trans rfl
    have o1 : W.cell? ⟨w.heap.size, 1, none⟩ = some (.slice none 0 0) := (blk_cell ho 1).trans rfl
    have f1 := blk_frozen ho 1
    have HOO := Aside0.mk ho
    have HBB := Aside0.mk hbW
    clear ho hn hbb hbW
    go_wp2
    have HBW := Aside0.mk (putb81 (v0 := .string ⟨#[]⟩) (v1 := .slice none 0 0) HBB.out (Nat.le_refl w.heap.size))
    exact bodyPost_ret (results131 _ _ w.heap.size false (.string ⟨#[]⟩) (.slice none 0 0) rfl rfl (put81 HOO.out)) rfl ⟨none, 0, rfl, Nat.le_refl _, Kd.F_nil _ _ _, HBW.out⟩
  · have HI2 := Aside0.mk (show Calls Tryd.prog _ _ w2 (fun e w' => e = .returned (.int .i64 (k : Int)) ∧ Below w2.heap.size w2 w') from by have := HI.out; rw [h1] at this; exact this)
    rw [h2] at hd hb
    obtain rfl : l[k] = d := hd
    obtain rfl : true = b := hb
    obtain ⟨ad, cc, rfl, hcl, hK, hcc, hz⟩ := Kd.F_get HF.out z81 (k : Int) (by omega) (by omega)
    have hx : l.getD ((k : Int)).toNat z81 = l[k] := by simp [hk]
    rw [hx] at hK
    clear HI h1 h2 hz hx hcl
    obtain ⟨d, hd⟩ : ∃ d, l[k] = d := ⟨_, rfl⟩
    rw [hd] at hK ⊢
    clear hd
    obtain ⟨A1, c1, rfl, l1, g1⟩ := k81_openF hK
    simp only [Int.toNat_natCast] at hcc
    have y0 : w.cell? (ad.add (k * 2)) = some (.string d.f0) := by exact hcc 0 _ rfl
    have y1 : w.cell? ⟨(ad.add (k * 2)).block, (ad.add (k * 2)).off + 1, none⟩ = some (.slice A1 d.f1.length c1) := by rw [← add_field _ _ 1 (by omega)]; exact hcc 1 _ rfl
    have HG := Aside0.mk (And.intro hK trivial)
    clear hcc hK
    go_enter Tryd.func131, Tryd.ntmps131
    go_wp2_with fail
    (try rw [hw2])
    clear hw2
    refine HI2.out.mono ?_
    rintro e W ⟨rfl, hbb⟩
    have ho := blk_below HO2.out hbb
    have hbW := HB2.out.trans (hbb.mono HB2.out.size)
    have x0 : W.cell? (ad.add (k * 2)) = some (.string d.f0) := (hbW.cell (World.block_lt_of_cell? w _ y0)).trans y0
    have x1 : W.cell? ⟨(ad.add (k * 2)).block, (ad.add (k * 2)).off + 1, none⟩ = some (.slice A1 d.f1.length c1) := (hbW.cell (World.block_lt_of_cell? w _ y1)).trans y1
    have o0 : W.cell? ⟨w.heap.size, 0, none⟩ = some (.string ⟨#[]⟩) := (blk_cell ho 0).trans rfl
    have f0 := blk_frozen ho 0
    have o1 : W.cell? ⟨w.heap.size, 1, none⟩ = some (.slice none 0 0) := (blk_cell ho 1).trans rfl
    have f1 := blk_frozen ho 1
    have p0 : ((k : Int) < 0) = False := eq_false (by omega)
    have p1 : (0 ≤ (k : Int)) = True := eq_true (by omega)
    have p2 : ((k : Int) < (l.length : Int)) = True := eq_true (by omega)
    have qi : (k < l.length) = True := eq_true hk
    have HOO := Aside0.mk ho
    have HBB := Aside0.mk hbW
    clear ho hbb hbW y0 y1
    go_wp2
    have HBW := Aside0.mk (putb81 (v0 := .string d.f0) (v1 := .slice A1 d.f1.length c1) HBB.out (Nat.le_refl w.heap.size))
    exact bodyPost_ret (results131 _ _ w.heap.size true (.string d.f0) (.slice A1 d.f1.length c1) rfl rfl (put81 HOO.out)) rfl ⟨A1, c1, rfl, l1, Kd.F_below g1 HBW.out, HBW.out⟩
theorem put42 {W : World} {g : Nat} {a0 a1 a2 a3 a4 a5 a6 v0 v1 v2 v3 v4 v5 v6 : Value} (hb : W.heap[g]? = some (.cells #[a0, a1, a2, a3, a4, a5, a6] 42 (0, 0))) : (((((((W.setCell ⟨g, 0, none⟩ v0).setCell ⟨g, 1, none⟩ v1).setCell ⟨g, 2, none⟩ v2).setCell ⟨g, 3, none⟩ v3).setCell ⟨g, 4, none⟩ v4).setCell ⟨g, 5, none⟩ v5).setCell ⟨g, 6, none⟩ v6).heap[g]? = some (.cells #[v0, v1, v2, v3, v4, v5, v6] 42 (0, 0)) := by
  have h0 := blk_put hb 0 v0 rfl
  have h1 := blk_put h0 1 v1 rfl
  have h2 := blk_put h1 2 v2 rfl
  have h3 := blk_put h2 3 v3 rfl
  have h4 := blk_put h3 4 v4 rfl
  have h5 := blk_put h4 5 v5 rfl
  have h6 := blk_put h5 6 v6 rfl
  simpa using h6
theorem putb42 {w0 : Nat} {w W : World} {g : Nat} {v0 v1 v2 v3 v4 v5 v6 : Value} (hb : Below w0 w W) (hg : w0 ≤ g) : Below w0 w (((((((W.setCell ⟨g, 0, none⟩ v0).setCell ⟨g, 1, none⟩ v1).setCell ⟨g, 2, none⟩ v2).setCell ⟨g, 3, none⟩ v3).setCell ⟨g, 4, none⟩ v4).setCell ⟨g, 5, none⟩ v5).setCell ⟨g, 6, none⟩ v6) :=
  (((((((hb.setCell (p := ⟨g, 0, none⟩) hg v0).setCell (p := ⟨g, 1, none⟩) hg v1).setCell (p := ⟨g, 2, none⟩) hg v2).setCell (p := ⟨g, 3, none⟩) hg v3).setCell (p := ⟨g, 4, none⟩) hg v4).setCell (p := ⟨g, 5, none⟩) hg v5).setCell (p := ⟨g, 6, none⟩) hg v6)
theorem results95 (tmps : Array Value) (w : World) (g : Nat) (b : Bool) (v0 v1 v2 v3 v4 v5 v6 : Value) (h1 : tmps.getD 4 undef = .pointer (some ⟨g, 0, none⟩)) (h2 : tmps.getD 5 undef = .bool b)
    (hb : w.heap[g]? = some (.cells #[v0, v1, v2, v3, v4, v5, v6] 42 (0, 0))) : (results Tryd.f95 tmps).run Tryd.prog w = .ok (.tuple #[.agg #[v0, v1, v2, v3, v4, v5, v6], .bool b]) w := by
  have h : Tryd.f95.results = #[.cell 4 42, .tmp 5] := rfl
  have h1' : tmps[4]?.getD undef = .pointer (some ⟨g, 0, none⟩) := by simpa using h1
  have h2' : tmps[5]?.getD undef = .bool b := by simpa using h2
  have c0 : w.cell? ⟨g, 0, none⟩ = some v0 := (blk_cell hb 0).trans rfl
  have c1 : w.cell? ⟨g, 1, none⟩ = some v1 := (blk_cell hb 1).trans rfl
  have c2 : w.cell? ⟨g, 2, none⟩ = some v2 := (blk_cell hb 2).trans rfl
  have c3 : w.cell? ⟨g, 3, none⟩ = some v3 := (blk_cell hb 3).trans rfl
  have c4 : w.cell? ⟨g, 4, none⟩ = some v4 := (blk_cell hb 4).trans rfl
  have c5 : w.cell? ⟨g, 5, none⟩ = some v5 := (blk_cell hb 5).trans rfl
  have c6 : w.cell? ⟨g, 6, none⟩ = some v6 := (blk_cell hb 6).trans rfl
  simp only [results, h]
  simp [h1', h2', asAddr]
  go_simp
set_option maxHeartbeats 4000000 in
set_option maxRecDepth 100000 in
theorem first42 (l : List S42) (A : Option Addr) (c B : Nat) (s : ByteArray) (P : Nat → Prop) (w : World) (hF : Kd.F k42 w P A l.length l) (hB : w.heap[B]? = some (.cells #[.string s] 9 (0, 0))) (d : S42) (b : Bool)
    (hd : (l.find? fun x => x.f0.toList == s.toList).getD z42 = d) (hb : (l.find? fun x => x.f0.toList == s.toList).isSome = b) :
    Calls Tryd.prog 95 #[.slice A l.length c, .func (.func 96) #[] #[.pointer (some ⟨B, 0, none⟩)]] w fun e w' => ∃ (A2 : Option Addr) (c2 : Nat) (A6 : Option Addr) (c6 : Nat), e = .returned (.tuple #[.agg #[.string d.f0, .int .i64 d.f1, .slice A2 d.f2.length c2, .int .i64 d.f3.f0, .string d.f3.f1, .string d.f3.f2, .slice A6 d.f3.f3.length c6], .bool b]) ∧ d.f2.length ≤ c2 ∧ Kd.F k44 w' P A2 d.f2.length d.f2 ∧ d.f3.f3.length ≤ c6 ∧ Kd.F k24 w' P A6 d.f3.f3.length d.f3.f3 ∧ Below w.heap.size w w' := by
  obtain ⟨w2, hw2⟩ : ∃ w2, (w.alloc (.cells #[.string ⟨#[]⟩, .int .i64 0, .slice none 0 0, .int .i64 0, .string ⟨#[]⟩, .string ⟨#[]⟩, .slice none 0 0] 42)).alloc (.cells #[.string ⟨#[]⟩, .int .i64 0, .slice none 0 0, .int .i64 0, .string ⟨#[]⟩, .string ⟨#[]⟩, .slice none 0 0] 42) = w2 := ⟨_, rfl⟩
  have hb2 : Below w.heap.size w w2 := by rw [← hw2]; exact ((Below.refl _ w).alloc (Nat.le_refl _) _).alloc (by simp) _
  have hC2 := Kd.F_now (Kd.F_below hF hb2)
  have HI := Aside0.mk (idx42 l A c B s w2 hC2 (blk_below hB hb2))
  have ho2 : w2.heap[w.heap.size]? = some (.cells #[.string ⟨#[]⟩, .int .i64 0, .slice none 0 0, .int .i64 0, .string ⟨#[]⟩, .string ⟨#[]⟩, .slice none 0 0] 42 (0, 0)) := by rw [← hw2]; exact blk_alloc (blk_new _ _) _
  have hn2 : w2.heap[w.heap.size + 1]? = some (.cells #[.string ⟨#[]⟩, .int .i64 0, .slice none 0 0, .int .i64 0, .string ⟨#[]⟩, .string ⟨#[]⟩, .slice none 0 0] 42 (0, 0)) := by
    rw [← hw2]; have := blk_new (w.alloc (.cells #[.string ⟨#[]⟩, .int .i64 0, .slice none 0 0, .int .i64 0, .string ⟨#[]⟩, .string ⟨#[]⟩, .slice none 0 0] 42)) (.cells #[.string ⟨#[]⟩, .int .i64 0, .slice none 0 0, .int .i64 0, .string ⟨#[]⟩, .string ⟨#[]⟩, .slice none 0 0] 42); rwa [World.size_alloc] at this
  have HO2 := Aside0.mk ho2
  have HN2 := Aside0.mk hn2
  have HB2 := Aside0.mk hb2
  have HF := Aside0.mk hF
  have hmax : l.length ≤ 9223372036854775807 := (Kd.F_now hF).2.1
  clear hF hB hC2 hb2 ho2 hn2
  rcases find_idx l (fun x => x.f0.toList == s.toList) with ⟨h1, h2⟩ | ⟨k, hk, h1, h2⟩
  · have HI2 := Aside0.mk (show Calls Tryd.prog _ _ w2 (fun e w' => e = .returned (.int .i64 (-1)) ∧ Below w2.heap.size w2 w') from by have := HI.out; rw [h1] at this; exact this)
    rw [h2] at hd hb
    obtain rfl : z42 = d := hd
    obtain rfl : false = b := hb
    clear HI h1 h2
    go_enter Tryd.func95, Tryd.ntmps95
    go_wp2_with fail
    (try rw [hw2])
    clear hw2
    refine HI2.out.mono ?_
    rintro e W ⟨rfl, hbb⟩
    have ho := blk_below HO2.out hbb
    have hn := blk_below HN2.out hbb
    have hbW := HB2.out.trans (hbb.mono HB2.out.size)
    have r0 : W.cell? ⟨w.heap.size + 1, 0, none⟩ = some (.string ⟨#[]⟩) := (blk_cell hn 0).trans rfl
    have o0 : W.cell? ⟨w.heap.size, 0, none⟩ = some (.string ⟨#[]⟩) := (blk_cell ho 0).trans rfl
    have f0 := blk_frozen ho 0
    have r1 : W.cell? ⟨w.heap.size + 1, 1, none⟩ = some (.int .i64 0) := (blk_cell hn 1).trans rfl
    have o1 : W.cell? ⟨w.heap.size, 1, none⟩ = some (.int .i64 0) := (blk_cell ho 1).trans rfl
    have f1 := blk_frozen ho 1
    have r2 : W.cell? ⟨w.heap.size + 1, 2, none⟩ = some (.slice none 0 0) := (blk_cell hn 2).trans rfl
    have o2 : W.cell? ⟨w.heap.size, 2, none⟩ = some (.slice none 0 0) := (blk_cell ho 2).trans rfl
    have f2 := blk_frozen ho 2
    have r3 : W.cell? ⟨w.heap.size + 1, 3, none⟩ = some (.int .i64 0) := (blk_cell hn 3).trans rfl
    have o3 : W.cell? ⟨w.heap.size, 3, none⟩ = some (.int .i64 0) := (blk_cell ho 3).trans rfl
    have f3 := blk_frozen ho 3
    have r4 : W.cell? ⟨w.heap.size + 1, 4, none⟩ = some (.string ⟨#[]⟩) := (blk_cell hn 4).trans rfl
    have o4 : W.cell? ⟨w.heap.size, 4, none⟩ = some (.string ⟨#[]⟩) := (blk_cell ho 4).trans rfl
    have f4 := blk_frozen ho 4
    have r5 : W.cell? ⟨w.heap.size + 1, 5, none⟩ = some (.string ⟨#[]⟩) := (blk_cell hn 5).trans rfl
    have o5 : W.cell? ⟨w.heap.size, 5, none⟩ = some (.string ⟨#[]⟩) := (blk_cell ho 5).trans rfl
    have f5 := blk_frozen ho 5
    have r6 : W.cell? ⟨w.heap.size + 1, 6, none⟩ = some (.slice none 0 0) := (blk_cell hn 6).trans rfl
    have o6 : W.cell? ⟨w.heap.size, 6, none⟩ = some (.slice none 0 0) := (blk_cell ho 6).trans rfl
    have f6 := blk_frozen ho 6
    have HOO := Aside0.mk ho
    have HBB := Aside0.mk hbW
    clear ho hn hbb hbW
    go_wp2
    have HBW := Aside0.mk (putb42 (v0 := .string ⟨#[]⟩) (v1 := .int .i64 0) (v2 := .slice none 0 0) (v3 := .int .i64 0) (v4 := .string ⟨#[]⟩) (v5 := .string ⟨#[]⟩) (v6 := .slice none 0 0) HBB.out (Nat.le_refl w.heap.size))
    exact bodyPost_ret (results95 _ _ w.heap.size false (.string ⟨#[]⟩) (.int .i64 0) (.slice none 0 0) (.int .i64 0) (.string ⟨#[]⟩) (.string ⟨#[]⟩) (.slice none 0 0) rfl rfl (put42 HOO.out)) rfl ⟨none, 0, none, 0, rfl, Nat.le_refl _, Kd.F_nil _ _ _, Nat.le_refl _, Kd.F_nil _ _ _, HBW.out⟩
  · have HI2 := Aside0.mk (show Calls Tryd.prog _ _ w2 (fun e w' => e = .returned (.int .i64 (k : Int)) ∧ Below w2.heap.size w2 w') from by have := HI.out; rw [h1] at this; exact this)
    rw [h2] at hd hb
    obtain rfl : l[k] = d := hd
    obtain rfl : true = b := hb
    obtain ⟨ad, cc, rfl, hcl, hK, hcc, hz⟩ := Kd.F_get HF.out z42 (k : Int) (by omega) (by omega)
    have hx : l.getD ((k : Int)).toNat z42 = l[k] := by simp [hk]
    rw [hx] at hK
    clear HI h1 h2 hz hx hcl
    obtain ⟨d, hd⟩ : ∃ d, l[k] = d := ⟨_, rfl⟩
    rw [hd] at hK ⊢
    clear hd
    obtain ⟨A2, c2, A6, c6, rfl, l2, g2, l6, g6⟩ := k42_openF hK
    simp only [Int.toNat_natCast] at hcc
    have y0 : w.cell? (ad.add (k * 7)) = some (.string d.f0) := by exact hcc 0 _ rfl
    have y1 : w.cell? ⟨(ad.add (k * 7)).block, (ad.add (k * 7)).off + 1, none⟩ = some (.int .i64 d.f1) := by rw [← add_field _ _ 1 (by omega)]; exact hcc 1 _ rfl
    have y2 : w.cell? ⟨(ad.add (k * 7)).block, (ad.add (k * 7)).off + 2, none⟩ = some (.slice A2 d.f2.length c2) := by rw [← add_field _ _ 2 (by omega)]; exact hcc 2 _ rfl
    have y3 : w.cell? ⟨(ad.add (k * 7)).block, (ad.add (k * 7)).off + 3, none⟩ = some (.int .i64 d.f3.f0) := by rw [← add_field _ _ 3 (by omega)]; exact hcc 3 _ rfl
    have y4 : w.cell? ⟨(ad.add (k * 7)).block, (ad.add (k * 7)).off + 4, none⟩ = some (.string d.f3.f1) := by rw [← add_field _ _ 4 (by omega)]; exact hcc 4 _ rfl
    have y5 : w.cell? ⟨(ad.add (k * 7)).block, (ad.add (k * 7)).off + 5, none⟩ = some (.string d.f3.f2) := by rw [← add_field _ _ 5 (by omega)]; exact hcc 5 _ rfl
    have y6 : w.cell? ⟨(ad.add (k * 7)).block, (ad.add (k * 7)).off + 6, none⟩ = some (.slice A6 d.f3.f3.length c6) := by rw [← add_field _ _ 6 (by omega)]; exact hcc 6 _ rfl
    have HG := Aside0.mk (And.intro hK trivial)
    clear hcc hK
    go_enter Tryd.func95, Tryd.ntmps95
    go_wp2_with fail
    (try rw [hw2])
    clear hw2
    refine HI2.out.mono ?_
    rintro e W ⟨rfl, hbb⟩
    have ho := blk_below HO2.out hbb
    have hbW := HB2.out.trans (hbb.mono HB2.out.size)
    have x0 : W.cell? (ad.add (k * 7)) = some (.string d.f0) := (hbW.cell (World.block_lt_of_cell? w _ y0)).trans y0
    have x1 : W.cell? ⟨(ad.add (k * 7)).block, (ad.add (k * 7)).off + 1, none⟩ = some (.int .i64 d.f1) := (hbW.cell (World.block_lt_of_cell? w _ y1)).trans y1
    have x2 : W.cell? ⟨(ad.add (k * 7)).block, (ad.add (k * 7)).off + 2, none⟩ = some (.slice A2 d.f2.length c2) := (hbW.cell (World.block_lt_of_cell? w _ y2)).trans y2
    have x3 : W.cell? ⟨(ad.add (k * 7)).block, (ad.add (k * 7)).off + 3, none⟩ = some (.int .i64 d.f3.f0) := (hbW.cell (World.block_lt_of_cell? w _ y3)).trans y3
    have x4 : W.cell? ⟨(ad.add (k * 7)).block, (ad.add (k * 7)).off + 4, none⟩ = some (.string d.f3.f1) := (hbW.cell (World.block_lt_of_cell? w _ y4)).trans y4
    have x5 : W.cell? ⟨(ad.add (k * 7)).block, (ad.add (k * 7)).off + 5, none⟩ = some (.string d.f3.f2) := (hbW.cell (World.block_lt_of_cell? w _ y5)).trans y5
    have x6 : W.cell? ⟨(ad.add (k * 7)).block, (ad.add (k * 7)).off + 6, none⟩ = some (.slice A6 d.f3.f3.length c6) := (hbW.cell (World.block_lt_of_cell? w _ y6)).trans y6
    have o0 : W.cell? ⟨w.heap.size, 0, none⟩ = some (.string ⟨#[]⟩) := (blk_cell ho 0).trans rfl
    have f0 := blk_frozen ho 0
    have o1 : W.cell? ⟨w.heap.size, 1, none⟩ = some (.int .i64 0) := (blk_cell ho 1).trans rfl
    have f1 := blk_frozen ho 1
    have o2 : W.cell? ⟨w.heap.size, 2, none⟩ = some (.slice none 0 0) := (blk_cell ho 2).trans rfl
    have f2 := blk_frozen ho 2
    have o3 : W.cell? ⟨w.heap.size, 3, none⟩ = some (.int .i64 0) := (blk_cell ho 3).trans rfl
    have f3 := blk_frozen ho 3
    have o4 : W.cell? ⟨w.heap.size, 4, none⟩ = some (.string ⟨#[]⟩) := (blk_cell ho 4).trans rfl
    have f4 := blk_frozen ho 4
    have o5 : W.cell? ⟨w.heap.size, 5, none⟩ = some (.string ⟨#[]⟩) := (blk_cell ho 5).trans rfl
    have f5 := blk_frozen ho 5
    have o6 : W.cell? ⟨w.heap.size, 6, none⟩ = some (.slice none 0 0) := (blk_cell ho 6).trans rfl
    have f6 := blk_frozen ho 6
    have p0 : ((k : Int) < 0) = False := eq_false (by omega)
    have p1 : (0 ≤ (k : Int)) = True := eq_true (by omega)
    have p2 : ((k : Int) < (l.length : Int)) = True := eq_true (by omega)
    have qi : (k < l.length) = True := eq_true hk
    have HOO := Aside0.mk ho
    have HBB := Aside0.mk hbW
    clear ho hbb hbW y0 y1 y2 y3 y4 y5 y6
    go_wp2
    have HBW := Aside0.mk (putb42 (v0 := .string d.f0) (v1 := .int .i64 d.f1) (v2 := .slice A2 d.f2.length c2) (v3 := .int .i64 d.f3.f0) (v4 := .string d.f3.f1) (v5 := .string d.f3.f2) (v6 := .slice A6 d.f3.f3.length c6) HBB.out (Nat.le_refl w.heap.size))
    exact bodyPost_ret (results95 _ _ w.heap.size true (.string d.f0) (.int .i64 d.f1) (.slice A2 d.f2.length c2) (.int .i64 d.f3.f0) (.string d.f3.f1) (.string d.f3.f2) (.slice A6 d.f3.f3.length c6) rfl rfl (put42 HOO.out)) rfl ⟨A2, c2, A6, c6, rfl, l2, Kd.F_below g2 HBW.out, l6, Kd.F_below g6 HBW.out, HBW.out⟩
theorem results94 (tmps : Array Value) (w : World) (g : Nat) (b : Bool) (v0 v1 : Value) (h1 : tmps.getD 4 undef = .pointer (some ⟨g, 0, none⟩)) (h2 : tmps.getD 5 undef = .bool b)
    (hb : w.heap[g]? = some (.cells #[v0, v1] 81 (0, 0))) : (results Tryd.f94 tmps).run Tryd.prog w = .ok (.tuple #[.agg #[v0, v1], .bool b]) w := by
  have h : Tryd.f94.results = #[.cell 4 81, .tmp 5] := rfl
  have h1' : tmps[4]?.getD undef = .pointer (some ⟨g, 0, none⟩) := by simpa using h1
  have h2' : tmps[5]?.getD undef = .bool b := by simpa using h2
  have c0 : w.cell? ⟨g, 0, none⟩ = some v0 := (blk_cell hb 0).trans rfl
  have c1 : w.cell? ⟨g, 1, none⟩ = some v1 := (blk_cell hb 1).trans rfl
  simp only [results, h]
  simp [h1', h2', asAddr]
  go_simp
theorem results61 (tmps : Array Value) (w : World) (g : Nat) (b : Bool) (v0 v1 v2 v3 v4 v5 v6 : Value) (h1 : tmps.getD 6 undef = .pointer (some ⟨g, 0, none⟩)) (h2 : tmps.getD 7 undef = .bool b)
    (hb : w.heap[g]? = some (.cells #[v0, v1, v2, v3, v4, v5, v6] 42 (0, 0))) : (results Tryd.f61 tmps).run Tryd.prog w = .ok (.tuple #[.agg #[v0, v1, v2, v3, v4, v5, v6], .bool b]) w := by
  have h : Tryd.f61.results = #[.cell 6 42, .tmp 7] := rfl
  have h1' : tmps[6]?.getD undef = .pointer (some ⟨g, 0, none⟩) := by simpa using h1
  have h2' : tmps[7]?.getD undef = .bool b := by simpa using h2
  have c0 : w.cell? ⟨g, 0, none⟩ = some v0 := (blk_cell hb 0).trans rfl
  have c1 : w.cell? ⟨g, 1, none⟩ = some v1 := (blk_cell hb 1).trans rfl
  have c2 : w.cell? ⟨g, 2, none⟩ = some v2 := (blk_cell hb 2).trans rfl
  have c3 : w.cell? ⟨g, 3, none⟩ = some v3 := (blk_cell hb 3).trans rfl
  have c4 : w.cell? ⟨g, 4, none⟩ = some v4 := (blk_cell hb 4).trans rfl
  have c5 : w.cell? ⟨g, 5, none⟩ = some v5 := (blk_cell hb 5).trans rfl
  have c6 : w.cell? ⟨g, 6, none⟩ = some v6 := (blk_cell hb 6).trans rfl
  simp only [results, h]
  simp [h1', h2', asAddr]
  go_simp
set_option maxHeartbeats 4000000 in
set_option maxRecDepth 100000 in
theorem find94 (l : List S81) (A : Option Addr) (c : Nat) (s : ByteArray) (P : Nat → Prop) (w : World) (hF : Kd.F k81 w P A l.length l) (d : S81) (b : Bool)
    (hd : (l.find? fun x => x.f0.toList == s.toList).getD z81 = d) (hb : (l.find? fun x => x.f0.toList == s.toList).isSome = b) :
    Calls Tryd.prog 94 #[.agg #[.slice A l.length c], .string s] w fun e w' => ∃ (A1 : Option Addr) (c1 : Nat), e = .returned (.tuple #[.agg #[.string d.f0, .slice A1 d.f1.length c1], .bool b]) ∧ d.f1.length ≤ c1 ∧ Kd.F k42 w' P A1 d.f1.length d.f1 ∧ Below w.heap.size w w' := by
  obtain ⟨w2, hw2⟩ : ∃ w2, ((w.alloc (.cells #[.slice A l.length c] 59)).alloc (.cells #[.string s] 9)).alloc (.cells #[.string ⟨#[]⟩, .slice none 0 0] 81) = w2 := ⟨_, rfl⟩
  have hb2 : Below w.heap.size w w2 := by rw [← hw2]; exact (((Below.refl _ w).alloc (Nat.le_refl _) _).alloc (by simp) _).alloc (by simp; omega) _
  have hs2 : w2.heap[w.heap.size + 1]? = some (.cells #[.string s] 9 (0, 0)) := by
    rw [← hw2]; refine blk_alloc ?_ _; have := blk_new (w.alloc (.cells #[.slice A l.length c] 59)) (.cells #[.string s] 9); rwa [World.size_alloc] at this
  have ho2 : w2.heap[w.heap.size + 2]? = some (.cells #[.string ⟨#[]⟩, .slice none 0 0] 81 (0, 0)) := by
    rw [← hw2]; have := blk_new ((w.alloc (.cells #[.slice A l.length c] 59)).alloc (.cells #[.string s] 9)) (.cells #[.string ⟨#[]⟩, .slice none 0 0] 81); rwa [World.size_alloc, World.size_alloc] at this
  have HI := Aside0.mk (first81 l A c (w.heap.size + 1) s (fun k => P k ∧ k < w.heap.size) w2 (Kd.F_below (Kd.F_bound hF) hb2) hs2 d b hd hb)
  have HO2 := Aside0.mk ho2
  have HB2 := Aside0.mk hb2
  have HW2 := Aside0.mk hw2
  clear hF hd hb hs2 ho2 hb2 hw2
  go_enter Tryd.func94, Tryd.ntmps94
  go_wp2_with fail
  rw [HW2.out]
  clear HW2
  refine HI.out.mono ?_
  rintro e W ⟨A1, c1, rfl, l1, g1, hbb⟩
  have ho := blk_below HO2.out hbb
  have hbW := HB2.out.trans (hbb.mono HB2.out.size)
  have o0 : W.cell? ⟨w.heap.size + 1 + 1, 0, none⟩ = some (.string ⟨#[]⟩) := (blk_cell ho 0).trans rfl
  have f0 := blk_frozen ho 0
  have o1 : W.cell? ⟨w.heap.size + 1 + 1, 1, none⟩ = some (.slice none 0 0) := (blk_cell ho 1).trans rfl
  have f1 := blk_frozen ho 1
  have HOO := Aside0.mk ho
  have HBB := Aside0.mk hbW
  have HG := Aside0.mk (And.intro l1 g1)
  clear ho hbb hbW l1 g1 HI
  go_wp2
  have HBW := Aside0.mk (putb81 (g := w.heap.size + 2) (v0 := .string d.f0) (v1 := .slice A1 d.f1.length c1) HBB.out (by omega))
  exact bodyPost_ret (results94 _ _ (w.heap.size + 2) b (.string d.f0) (.slice A1 d.f1.length c1) rfl rfl (put81 HOO.out)) rfl ⟨A1, c1, rfl, HG.out.1,
    Kd.F_mono (Kd.F_far (p := ⟨w.heap.size + 2, 1, none⟩) (Kd.F_far (p := ⟨w.heap.size + 2, 0, none⟩) HG.out.2 (fun k hk => by have := hk.2; show k ≠ w.heap.size + 2; omega) _) (fun k hk => by have := hk.2; show k ≠ w.heap.size + 2; omega) _) (fun k hk => hk.1), HBW.out⟩
set_option maxHeartbeats 4000000 in
set_option maxRecDepth 100000 in
theorem member61 (l : List S81) (A : Option Addr) (c : Nat) (s s2 : ByteArray) (P : Nat → Prop) (w : World) (hF : Kd.F k81 w P A l.length l) (d : S42) (b : Bool)
    (hd : (((l.find? fun x => x.f0.toList == s.toList).getD z81).f1.find? fun x => x.f0.toList == s2.toList).getD z42 = d) (hb : (((l.find? fun x => x.f0.toList == s.toList).getD z81).f1.find? fun x => x.f0.toList == s2.toList).isSome = b) :
    Calls Tryd.prog 61 #[.agg #[.slice A l.length c], .string s, .string s2] w fun e w' => ∃ (A2 : Option Addr) (c2 : Nat) (A6 : Option Addr) (c6 : Nat), e = .returned (.tuple #[.agg #[.string d.f0, .int .i64 d.f1, .slice A2 d.f2.length c2, .int .i64 d.f3.f0, .string d.f3.f1, .string d.f3.f2, .slice A6 d.f3.f3.length c6], .bool b]) ∧ d.f2.length ≤ c2 ∧ Kd.F k44 w' P A2 d.f2.length d.f2 ∧ d.f3.f3.length ≤ c6 ∧ Kd.F k24 w' P A6 d.f3.f3.length d.f3.f3 ∧ Below w.heap.size w w' := by
  obtain ⟨w2, hw2⟩ : ∃ w2, ((w.alloc (.cells #[.slice A l.length c] 59)).alloc (.cells #[.string s2] 9)).alloc (.cells #[.string ⟨#[]⟩, .int .i64 0, .slice none 0 0, .int .i64 0, .string ⟨#[]⟩, .string ⟨#[]⟩, .slice none 0 0] 42) = w2 := ⟨_, rfl⟩
  have hb2 : Below w.heap.size w w2 := by rw [← hw2]; exact (((Below.refl _ w).alloc (Nat.le_refl _) _).alloc (by simp) _).alloc (by simp; omega) _
  have hs2 : w2.heap[w.heap.size + 1]? = some (.cells #[.string s2] 9 (0, 0)) := by
    rw [← hw2]; refine blk_alloc ?_ _; have := blk_new (w.alloc (.cells #[.slice A l.length c] 59)) (.cells #[.string s2] 9); rwa [World.size_alloc] at this
  have ho2 : w2.heap[w.heap.size + 2]? = some (.cells #[.string ⟨#[]⟩, .int .i64 0, .slice none 0 0, .int .i64 0, .string ⟨#[]⟩, .string ⟨#[]⟩, .slice none 0 0] 42 (0, 0)) := by
    rw [← hw2]; have := blk_new ((w.alloc (.cells #[.slice A l.length c] 59)).alloc (.cells #[.string s2] 9)) (.cells #[.string ⟨#[]⟩, .int .i64 0, .slice none 0 0, .int .i64 0, .string ⟨#[]⟩, .string ⟨#[]⟩, .slice none 0 0] 42); rwa [World.size_alloc, World.size_alloc] at this
  obtain ⟨df, hdf⟩ : ∃ df, (l.find? fun x => x.f0.toList == s.toList).getD z81 = df := ⟨_, rfl⟩
  obtain ⟨bf, hbf⟩ : ∃ bf, (l.find? fun x => x.f0.toList == s.toList).isSome = bf := ⟨_, rfl⟩
  rw [hdf] at hd hb
  have HI := Aside0.mk (find94 l A c s (fun k => P k ∧ k < w.heap.size) w2 (Kd.F_below (Kd.F_bound hF) hb2) df bf hdf hbf)
  have HO2 := Aside0.mk ho2
  have HS2 := Aside0.mk hs2
  have HB2 := Aside0.mk hb2
  have HW2 := Aside0.mk hw2
  have HD := Aside0.mk (And.intro hd hb)
  clear hF hd hb hs2 ho2 hb2 hw2 hdf hbf
  go_enter Tryd.func61, Tryd.ntmps61
  go_wp2_with fail
  rw [HW2.out]
  clear HW2
  refine HI.out.mono ?_
  rintro e W1 ⟨A1, c1, rfl, l1, g1, hbb⟩
  have hsz : w.heap.size + 2 < W1.heap.size := Nat.lt_of_lt_of_le (Array.getElem?_eq_some_iff.1 HO2.out).1 hbb.size
  obtain ⟨W3, hW3⟩ : ∃ W3, W1.alloc (.cells #[.string df.f0, .slice A1 df.f1.length c1] 81) = W3 := ⟨_, rfl⟩
  have hb3 : Below W1.heap.size W1 W3 := hW3 ▸ below_alloc (Below.refl _ _) _
  have HJ := Aside0.mk (first42 df.f1 A1 c1 (w.heap.size + 1) s2 (fun k => P k ∧ k < w.heap.size) W3 (Kd.F_below g1 hb3) (blk_below (blk_below HS2.out hbb) hb3) d b HD.out.1 HD.out.2)
  have HO3 := Aside0.mk (blk_below (blk_below HO2.out hbb) hb3)
  have HB3 := Aside0.mk ((HB2.out.trans (hbb.mono HB2.out.size)).trans (hb3.mono (Nat.le_of_lt (Nat.lt_of_le_of_lt (by omega) hsz))))
  have HW3 := Aside0.mk hW3
  clear HI l1 g1 hbb hb3 hW3 HO2 HS2 HB2
  go_wp2_with fail
  rw [HW3.out]
  clear HW3
  refine HJ.out.mono ?_
  rintro e W ⟨A2, c2, A6, c6, rfl, l2, g2, l6, g6, hbb⟩
  have ho := blk_below HO3.out hbb
  have hbW := HB3.out.trans (hbb.mono HB3.out.size)
  have o0 : W.cell? ⟨w.heap.size + 1 + 1, 0, none⟩ = some (.string ⟨#[]⟩) := (blk_cell ho 0).trans rfl
  have f0 := blk_frozen ho 0
  have o1 : W.cell? ⟨w.heap.size + 1 + 1, 1, none⟩ = some (.int .i64 0) := (blk_cell ho 1).trans rfl
  have f1 := blk_frozen ho 1
  have o2 : W.cell? ⟨w.heap.size + 1 + 1, 2, none⟩ = some (.slice none 0 0) := (blk_cell ho 2).trans rfl
  have f2 := blk_frozen ho 2
  have o3 : W.cell? ⟨w.heap.size + 1 + 1, 3, none⟩ = some (.int .i64 0) := (blk_cell ho 3).trans rfl
  have f3 := blk_frozen ho 3
  have o4 : W.cell? ⟨w.heap.size + 1 + 1, 4, none⟩ = some (.string ⟨#[]⟩) := (blk_cell ho 4).trans rfl
  have f4 := blk_frozen ho 4
  have o5 : W.cell? ⟨w.heap.size + 1 + 1, 5, none⟩ = some (.string ⟨#[]⟩) := (blk_cell ho 5).trans rfl
  have f5 := blk_frozen ho 5
  have o6 : W.cell? ⟨w.heap.size + 1 + 1, 6, none⟩ = some (.slice none 0 0) := (blk_cell ho 6).trans rfl
  have f6 := blk_frozen ho 6
  have HOO := Aside0.mk ho
  have HBB := Aside0.mk hbW
  have HG := Aside0.mk (And.intro l2 (And.intro g2 (And.intro l6 g6)))
  clear ho hbb hbW l2 g2 l6 g6 HJ hsz
  go_wp2
  have HBW := Aside0.mk (putb42 (g := w.heap.size + 2) (v0 := .string d.f0) (v1 := .int .i64 d.f1) (v2 := .slice A2 d.f2.length c2) (v3 := .int .i64 d.f3.f0) (v4 := .string d.f3.f1) (v5 := .string d.f3.f2) (v6 := .slice A6 d.f3.f3.length c6) HBB.out (by omega))
  have far : ∀ {α : Type} {dk : Kd α} {W : World} {A' : Option Addr} {n' : Nat} {xs : List α}, Kd.F dk W (fun k => P k ∧ k < w.heap.size) A' n' xs → ∀ (j : Nat) (v : Value), Kd.F dk (W.setCell ⟨w.heap.size + 2, j, none⟩ v) (fun k => P k ∧ k < w.heap.size) A' n' xs :=
    fun h j v => Kd.F_far (p := ⟨w.heap.size + 2, j, none⟩) h (fun k hk => by have := hk.2; show k ≠ w.heap.size + 2; omega) v
  exact bodyPost_ret (results61 _ _ (w.heap.size + 2) b (.string d.f0) (.int .i64 d.f1) (.slice A2 d.f2.length c2) (.int .i64 d.f3.f0) (.string d.f3.f1) (.string d.f3.f2) (.slice A6 d.f3.f3.length c6) rfl rfl (put42 HOO.out)) rfl
    ⟨A2, c2, A6, c6, rfl, HG.out.1, Kd.F_mono (far (far (far (far (far (far (far HG.out.2.1 _ _) _ _) _ _) _ _) _ _) _ _) _ _) (fun k hk => hk.1), HG.out.2.2.1, Kd.F_mono (far (far (far (far (far (far (far HG.out.2.2.2 _ _) _ _) _ _) _ _) _ _) _ _) _ _) (fun k hk => hk.1), HBW.out⟩
end Go.Proofs.YtigghbfcflnoeaaDoor.Y
end
section
namespace Go.Proofs.YtigghbfcflnoeaaDoor.Y
open Go.RowKit Go.Proofs.YtigghbfcflnoeaaDoorW.PrintWords Go.Proofs.YtigghbfcflnoeaaDoorW.PrintLast Go.Proofs.YtigghbfcflnoeaaDoorW.PrintMore
attribute [local go_sem] max2_int min2_int max_two min_two max_three min_three max_four min_four
set_option linter.unusedVariables false
set_option linter.unusedSimpArgs false
def memOf (l : List S81) (s s2 : ByteArray) : Option S42 := ((l.find? fun x => x.f0.toList == s.toList).getD z81).f1.find? fun x => x.f0.toList == s2.toList
def schema_Member.f (l0_0 : List (S81)) (a1 : ByteArray) (a2 : ByteArray) : Option (ByteArray × Int × (List (S44)) × Int × ByteArray × ByteArray × (List (S24)) × Bool) :=
  some (((memOf l0_0 a1 a2).getD z42).f0, ((memOf l0_0 a1 a2).getD z42).f1, ((memOf l0_0 a1 a2).getD z42).f2, ((memOf l0_0 a1 a2).getD z42).f3.f0, ((memOf l0_0 a1 a2).getD z42).f3.f1, ((memOf l0_0 a1 a2).getD z42).f3.f2, ((memOf l0_0 a1 a2).getD z42).f3.f3, (memOf l0_0 a1 a2).isSome)
theorem schema_Member.calls (P0_0_ : Nat → Prop) (A0_0 : Option Addr) (c0_0 : Nat) (l0_0 : List (S81)) (a1 : ByteArray) (a2 : ByteArray) (r1 : ByteArray) (r2 : Int) (r3 : List (S44)) (r4 : Int) (r5 : ByteArray) (r6 : ByteArray) (r7 : List (S24)) (r8 : Bool) (w : World) (hs0_0 : Kd.V k81 81 w w.heap.size (fun k_ => P0_0_ k_) (.slice A0_0 l0_0.length c0_0) l0_0) (h : schema_Member.f l0_0 a1 a2 = some (r1, r2, r3, r4, r5, r6, r7, r8)) :
    Calls Tryd.prog 61 #[.agg #[.slice A0_0 l0_0.length c0_0], .string a1, .string a2] w fun e w' => ∃ v2_ v6_ : Value, e = .returned (.tuple #[.agg #[.string r1, .int .i64 r2, v2_, .int .i64 r4, .string r5, .string r6, v6_], .bool r8]) ∧ Kd.V k44 44 w' w.heap.size (fun k_ => (P0_0_ k_ ∨ w.heap.size ≤ k_)) v2_ r3 ∧ Kd.V k24 24 w' w.heap.size (fun k_ => (P0_0_ k_ ∨ w.heap.size ≤ k_)) v6_ r7 ∧ Below w.heap.size w w' := by
  have h := Option.some.inj h
  simp only [Prod.mk.injEq] at h
  obtain ⟨rfl, rfl, rfl, rfl, rfl, rfl, rfl, rfl⟩ := h
  refine (member61 l0_0 A0_0 c0_0 a1 a2 (fun k_ => P0_0_ k_) w (Kd.V_F hs0_0) _ _ rfl rfl).mono ?_
  rintro e w' ⟨A2, c2, A6, c6, rfl, l2, g2, l6, g6, hb⟩
  exact ⟨_, _, rfl, Kd.V_mk l2 (Kd.F_mono g2 (fun k hk => .inl hk)), Kd.V_mk l6 (Kd.F_mono g6 (fun k hk => .inl hk)), hb⟩
end Go.Proofs.YtigghbfcflnoeaaDoor.Y
end
section
namespace Go.Proofs.YtigghbfcflnoeaaDoor.Y
open Go.RowKit Go.Proofs.YtigghbfcflnoeaaDoorW.PrintWords Go.Proofs.YtigghbfcflnoeaaDoorW.PrintLast Go.Proofs.YtigghbfcflnoeaaDoorW.PrintMore
attribute [local go_sem] max2_int min2_int max_two min_two max_three min_three max_four min_four
set_option linter.unusedVariables false
set_option linter.unusedSimpArgs false
def expr_few.f (a0_0 : Int) (a0_1 : ByteArray) (a0_2 : ByteArray) (l0_3 : List (S24)) : Option (Bool) :=
  if (leavesB ⟨a0_0, a0_1, a0_2, l0_3⟩).length ≤ 4611686018427387904 then some (decide ((leavesB ⟨a0_0, a0_1, a0_2, l0_3⟩).length ≤ 32)) else none
attribute [local go_sem] Oper.semAt_some
set_option maxHeartbeats 8000000 in
set_option maxRecDepth 100000 in
theorem few_at (x : S24) (A : Option Addr) (c : Nat) (w : World) (hC : Kd.C k24 w A x.f3.length x.f3) (hc : x.f3.length ≤ c) (hl : (leavesB x).length ≤ 4611686018427387904) :
    Calls Tryd.prog 48 #[exV x A c] w fun e w' => e = .returned (.bool (decide ((leavesB x).length ≤ 32))) ∧ Below w.heap.size w w' := by
  obtain ⟨r, hr⟩ : ∃ r, decide ((leavesB x).length ≤ 32) = r := ⟨_, rfl⟩
  rw [hr]
  have HR := Aside0.mk hr
  have HC := Aside0.mk hC
  have Hc := Aside0.mk hc
  have HL := Aside0.mk hl
  clear hr hC hc hl
  refine (callsIn_wide (n := 9)).1 ?_
  refine callsIn_of_wp_marks Tryd.func48 rfl trivial ?_ rfl
  simp only [Tryd.ntmps48, List.size_toArray, List.length_cons, List.length_nil, Nat.reduceAdd, Nat.reduceSub, Array.replicate_succ, Array.replicate_zero, List.push_toArray, List.append_toArray, List.nil_append, List.cons_append]
  gi_wp2_with fail
  refine ⟨trivial, (callsIn_wide.2 (leaves_calls x A c _)).mono ?_⟩
  rintro e w1 ⟨rfl, rfl⟩
  gi_wp2_with fail
  have hW0 : Below w.heap.size w (((w.alloc (exBox x A c)).alloc (.cells #[.int .i64 0] 3)).alloc (exBox x A c)) := (((Below.refl _ w).alloc (Nat.le_refl _) _).alloc (by simp) _).alloc (by simp; omega) _
  have bn : (((w.alloc (exBox x A c)).alloc (.cells #[.int .i64 0] 3)).alloc (exBox x A c)).heap[w.heap.size + 1]? = some (.cells #[.int .i64 0] 3 (0, 0)) := by
    refine blk_alloc ?_ _
    have := blk_new (w.alloc (exBox x A c)) (.cells #[.int .i64 0] 3)
    rwa [World.size_alloc] at this
  have be : (((w.alloc (exBox x A c)).alloc (.cells #[.int .i64 0] 3)).alloc (exBox x A c)).heap[w.heap.size + 2]? = some (exBox x A c) := by
    have := blk_new ((w.alloc (exBox x A c)).alloc (.cells #[.int .i64 0] 3)) (exBox x A c)
    rwa [World.size_alloc, World.size_alloc] at this
  have hsz : (((w.alloc (exBox x A c)).alloc (.cells #[.int .i64 0] 3)).alloc (exBox x A c)).heap.size = w.heap.size + 3 := by simp
  refine wpIn_rangeFunc_ownG rfl (by omega) (gf := 55) (lb := #[.pointer (some ⟨w.heap.size + 2, 0, none⟩)]) rfl trivial (enters_of Tryd.func55 (by kernel_rfl) rfl)
    (leaves_stops _ w _ x A c (w.heap.size + 2) HC.out Hc.out hW0 be) (fun h k => h.trans k) (fun W l o o' hl ho hc _ => KpL.putObj hW0.size W l o o' hl ho hc) (Below.refl _ _) (fun _ => rfl)
    (fun pre W => W.heap[w.heap.size + 1]? = some (.cells #[.int .i64 (pre.length : Int)] 3 (0, 0)) ∧ Below w.heap.size w W)
    (fun _ _ _ => False) ?hI (fun _ _ _ _ _ h _ _ => h) ⟨bn, hW0⟩
    (fun p => { tmps := #[exV x A c, .pointer (some ⟨w.heap.size, 0, none⟩), .bool false, .pointer (some ⟨w.heap.size + 1, 0, none⟩), exV x A c, .func (.func 55) #[] #[.pointer (some ⟨w.heap.size + 2, 0, none⟩)], p.val, undef, undef, undef, undef], defers := [] })
    ?assign ?body ?done ?stop
  case hI =>
    intro s W W' row h hg hr
    refine ⟨?_, pw_below_grown h.2 row h.2.size hg (fun k e => ?_)⟩
    · refine (hg.block _ ?_ ?_).trans h.1
      · exact (Array.getElem?_eq_some_iff.1 h.1).1
      · intro e
        have := (hr _ e.symm).1
        rw [hsz] at this
        omega
    · have := (hr _ e).1
      rw [hsz] at this
      omega
  case assign =>
    intro l p W K hK
    gi_wp2
    simpa using hK
  case body =>
    rintro l pre p W ⟨hn, hb⟩ hlt
    have hlt' : (pre.length : Int) < 4611686018427387904 := by have := HL.out; omega
    have z : W.cell? ⟨w.heap.size + 1, 0, none⟩ = some (.int .i64 (pre.length : Int)) := (blk_cell hn 0).trans rfl
    have zf := blk_frozen hn 0
    have HN := Aside0.mk hn
    have HB := Aside0.mk hb
    clear hn hb hlt
    gi_wp2
    refine ⟨(KeepsOthers.setCell _ _ _).from _, KpL.setCell _ _ _ (by show w.heap.size ≤ w.heap.size + 1; omega) (by rw [hsz]; show w.heap.size + 1 < w.heap.size + 3; omega), ?_, HB.out.setCell (p := ⟨w.heap.size + 1, 0, none⟩) (by show w.heap.size ≤ w.heap.size + 1; omega) _⟩
    have := blk_put HN.out 0 (.int .i64 ((pre.length : Int) + 1)) rfl
    simpa using this
  case done =>
    rintro D ys W hD hys ⟨hn, hb⟩ hK
    have he : ys.length = (leavesB x).length := by rw [← hys]; simp [exprs]
    have z : W.cell? ⟨w.heap.size + 1, 0, none⟩ = some (.int .i64 (ys.length : Int)) := (blk_cell hn 0).trans rfl
    have hd : decide ((ys.length : Int) ≤ 32) = r := by rw [← HR.out, he, Bool.eq_iff_iff]; simp; omega
    have HD := Aside0.mk hd
    have HB := Aside0.mk hb
    have HKK := Aside0.mk hK
    have hD2 : w.heap.size ≤ D := by rw [hsz] at hD; omega
    clear hd hb hn hys he hK
    generalize (ys.length : Int) = q at z HD
    gi_wp2
    have hk2 : Below w.heap.size W (W.putObj D (.deferred none)) := (KpL.putObj (Nat.le_refl _) W D (.deferred (some [])) (.deferred none) (by omega) HKK.out rfl).low
    refine ⟨by simp, .inl ⟨_, _, rfl, run_takeDeferred HKK.out, _, results_tmp rfl _ _ _, ?_, HB.out.trans hk2⟩⟩
    show Ending.returned (.bool (decide (q ≤ 32))) = _
    rw [HD.out]
  case stop =>
    rintro D c pre W _ _ h _
    exact h.elim
theorem expr_few.calls (a0_0 : Int) (a0_1 : ByteArray) (a0_2 : ByteArray) (A0_3 : Option Addr) (c0_3 : Nat) (l0_3 : List (S24)) (r : Bool) (w : World) (hr0_3 : Kd.C k24 w A0_3 l0_3.length l0_3) (hc0_3 : l0_3.length ≤ c0_3) (h : expr_few.f a0_0 a0_1 a0_2 l0_3 = some r) :
    Calls Tryd.prog 48 #[.agg #[.int .i64 a0_0, .string a0_1, .string a0_2, .slice A0_3 l0_3.length c0_3]] w fun e w' => e = .returned (.bool r) ∧ Below w.heap.size w w' := by
  unfold expr_few.f at h
  split at h
  · obtain rfl := Option.some.inj h
    exact few_at ⟨a0_0, a0_1, a0_2, l0_3⟩ A0_3 c0_3 w hr0_3 hc0_3 (by assumption)
  · simp at h
end Go.Proofs.YtigghbfcflnoeaaDoor.Y
end
section
namespace Go.Proofs.YtigghbfcflnoeaaDoor.Y
open Go.RowKit Go.Proofs.YtigghbfcflnoeaaDoorW.PrintWords Go.Proofs.YtigghbfcflnoeaaDoorW.PrintLast Go.Proofs.YtigghbfcflnoeaaDoorW.PrintMore
attribute [local go_sem] max2_int min2_int max_two min_two max_three min_three max_four min_four
set_option linter.unusedVariables false
set_option linter.unusedSimpArgs false
def expr_Right.f (k : Nat) (a0_0 : Int) (a0_1 : ByteArray) (a0_2 : ByteArray) (l0_3 : List (S24)) : Option (Bool) := (expr_Depth.f k a0_0 a0_1 a0_2 l0_3).bind fun t102 => (if t102 ≤ 16 then ((expr_form.f a0_0 a0_1 a0_2 l0_3).bind fun t103 => (if t103 = true then ((expr_few.f a0_0 a0_1 a0_2 l0_3).bind fun t104 => (some t104)) else (some false))) else (some false))
theorem expr_Right.mono : ∀ a0 a1 a2 a3 k, LeO (expr_Right.f k a0 a1 a2 a3) (expr_Right.f (k + 1) a0 a1 a2 a3) := by
  intro a0 a1 a2 a3 k
  unfold expr_Right.f
  repeat' first
      | (with_reducible exact expr_Depth.mono _ _ _ _ _)
      | (with_reducible exact LeO.refl _)
      | (with_reducible exact LeO.none _)
      | (with_reducible refine LeO.ite ?_ ?_)
      | (with_reducible refine LeO.bind ?_ (fun _ => ?_))
      | exact expr_Depth.mono _ _ _ _ _
      | exact LeO.none _
      | refine LeO.ite ?_ ?_
      | refine LeO.bind ?_ (fun _ => ?_)
set_option maxHeartbeats 8000000 in
set_option maxRecDepth 100000 in
theorem expr_Right.calls (k : Nat) (a0_0 : Int) (a0_1 : ByteArray) (a0_2 : ByteArray) (A0_3 : Option Addr) (c0_3 : Nat) (l0_3 : List (S24)) (r : Bool) (w : World) (hL : Laid w) (hr0_3 : Kd.C k24 w A0_3 l0_3.length l0_3) (hc0_3 : l0_3.length ≤ c0_3) (h : expr_Right.f k a0_0 a0_1 a0_2 l0_3 = some r) :
    Calls Tryd.prog 17 #[.agg #[.int .i64 a0_0, .string a0_1, .string a0_2, .slice A0_3 l0_3.length c0_3]] w fun e w' => e = .returned (.bool r) ∧ Below w.heap.size w w' := by
  have HL := Aside0.mk hL
  clear hL
  have hu24 := Tryd.underlying24
  have HR0_3 := Aside0.mk hr0_3
  have HC0_3 := Aside0.mk hc0_3
  clear hr0_3 hc0_3
  have HB := Aside0.mk (Below.refl w.heap.size w)
  have H : ((expr_Depth.f k a0_0 a0_1 a0_2 l0_3).bind fun t102 => (if t102 ≤ 16 then ((expr_form.f a0_0 a0_1 a0_2 l0_3).bind fun t103 => (if t103 = true then ((expr_few.f a0_0 a0_1 a0_2 l0_3).bind fun t104 => (some t104)) else (some false))) else (some false))) = some r := h
  clear h
  replace H := Option.bind_eq_some_iff.mp H
  obtain ⟨t102, A20, H⟩ := H
  replace H : (if t102 ≤ 16 then ((expr_form.f a0_0 a0_1 a0_2 l0_3).bind fun t103 => (if t103 = true then ((expr_few.f a0_0 a0_1 a0_2 l0_3).bind fun t104 => (some t104)) else (some false))) else (some false)) = some r := H
  have A2 := Aside0.mk A20
  clear A20
  by_cases c3 : t102 ≤ 16
  · rw [if_pos c3] at H
    have c3b0 : decide (t102 ≤ 16) = true := decide_eq_true c3
    clear c3
    replace H := Option.bind_eq_some_iff.mp H
    obtain ⟨t103, A40, H⟩ := H
    replace H : (if t103 = true then ((expr_few.f a0_0 a0_1 a0_2 l0_3).bind fun t104 => (some t104)) else (some false)) = some r := H
    have A4 := Aside0.mk A40
    clear A40
    by_cases c5 : t103 = true
    · subst c5
      have H1 : ((expr_few.f a0_0 a0_1 a0_2 l0_3).bind fun t104 => (some t104)) = some r := by rw [if_pos rfl] at H; exact H
      clear H
      have H := H1
      clear H1
      replace H := Option.bind_eq_some_iff.mp H
      obtain ⟨t104, A60, H⟩ := H
      replace H : (some t104) = some r := H
      have A6 := Aside0.mk A60
      clear A60
      obtain rfl := Option.some.inj H
      go_enter Tryd.func17, Tryd.ntmps17
      go_wp2_with (first | ((with_reducible refine gate_dst (N := 1) rfl ?_); refine box_event ?hg (N := 1) ?hd (cs := #[.int .i64 a0_0, .string a0_1, .string a0_2, .slice A0_3 l0_3.length c0_3]) (t := 24) ?hr ?_; (case hd => rfl); (case hg => rfl); (case hr => first | (go_simp; done) | (go_simp; rfl)); intro gb101 hg w7 hbox hb; have n0_ := Aside0.mk (below_step (by repeat (first | (with_reducible first | exact HB.out | apply below_alloc | apply pw_below_drewN | apply below_drew1) | exact HB.out)) hb); have n1_ := Aside0.mk (hbox); have n2_ := Aside0.mk ((by rw [hg]; exact (below_size (by repeat (first | (with_reducible first | exact HB.out | apply below_alloc | apply pw_below_drewN | apply below_drew1) | exact HB.out))) : w.heap.size ≤ gb101)); have n3_ := Aside0.mk ((by rw [hg]; exact (below_size (by repeat (first | (with_reducible first | exact HB.out | apply below_alloc | apply pw_below_drewN | apply below_drew1) | exact HB.out))) : w.heap.size ≤ gb101)); clear HB; have HB := n0_; have BK101 := n1_; have GW101 := n2_; have GE101 := n3_; clear n0_ n1_ n2_ n3_; clear hb hbox hg; have hcz8_0 : w7.cell? ⟨gb101, 0, none⟩ = some (.int .i64 a0_0) := (blk_cell BK101.out 0).trans rfl; have hcz8_1 : w7.cell? ⟨gb101, 1, none⟩ = some (.string a0_1) := (blk_cell BK101.out 1).trans rfl; have hcz8_2 : w7.cell? ⟨gb101, 2, none⟩ = some (.string a0_2) := (blk_cell BK101.out 2).trans rfl; have hcz8_3 : w7.cell? ⟨gb101, 3, none⟩ = some (.slice A0_3 l0_3.length c0_3) := (blk_cell BK101.out 3).trans rfl; have hfz8_0 := blk_frozen BK101.out 0; have hfz8_1 := blk_frozen BK101.out 1; have hfz8_2 := blk_frozen BK101.out 2; have hfz8_3 := blk_frozen BK101.out 3) | ((with_reducible refine gate_callee (f := 18) rfl ?_); refine goesL_ (some 4) rfl rfl Tryd.func18 (by kernel_rfl) rfl #[.agg #[.int .i64 a0_0, .string a0_1, .string a0_2, .slice A0_3 l0_3.length c0_3]] rfl (by (try simp only [List.map_toArray, List.map_cons, List.map_nil]); first | done | rfl | (simp only [List.length_drop, List.length_take]; rfl)) ?_; (with_reducible refine (expr_Depth.calls k a0_0 a0_1 a0_2 _ _ l0_3 t102 _ ?side1 ?side2 A2.out).mono ?_); (case side1 => repeat (first | exact (Kd.C_below HR0_3.out HB.out) | (with_reducible refine Kd.C_alloc ?_ _) | (with_reducible refine Kd.C_drewN ?_ _) | (with_reducible refine Kd.C_drew ?_))); (case side2 => exact HC0_3.out); rintro e w9 ⟨rfl, hb⟩; refine ⟨_, rfl, ?_⟩; have n0_ := Aside0.mk (blk_below (g := gb101) (o := .cells #[.int .i64 a0_0, .string a0_1, .string a0_2, .slice A0_3 l0_3.length c0_3] 24 (0, 0)) (by (with_reducible repeat (first | refine blk_drewN ?_ _ | refine blk_drew ?_ | refine blk_alloc ?_ _)); exact BK101.out) hb); have n1_ := Aside0.mk (below_step (by repeat (first | (with_reducible first | exact HB.out | apply below_alloc | apply pw_below_drewN | apply below_drew1 | refine below_set ?_ GE101.out) | exact HB.out)) hb); clear BK101; clear HB; have BK101 := n0_; have HB := n1_; clear n0_ n1_; (try clear hb); (try clear hb2); (try clear hk); (try clear hi); have hcz10_0 : w9.cell? ⟨gb101, 0, none⟩ = some (.int .i64 a0_0) := (blk_cell BK101.out 0).trans rfl; have hcz10_1 : w9.cell? ⟨gb101, 1, none⟩ = some (.string a0_1) := (blk_cell BK101.out 1).trans rfl; have hcz10_2 : w9.cell? ⟨gb101, 2, none⟩ = some (.string a0_2) := (blk_cell BK101.out 2).trans rfl; have hcz10_3 : w9.cell? ⟨gb101, 3, none⟩ = some (.slice A0_3 l0_3.length c0_3) := (blk_cell BK101.out 3).trans rfl; have hfz10_0 := blk_frozen BK101.out 0; have hfz10_1 := blk_frozen BK101.out 1; have hfz10_2 := blk_frozen BK101.out 2; have hfz10_3 := blk_frozen BK101.out 3) | (go_at_call 47; (with_reducible refine (expr_form.calls a0_0 a0_1 a0_2 _ _ l0_3 true _ ?sideL ?side1 ?side2 A4.out).mono ?_); (case sideL => exact HL.out.below (by repeat (first | (with_reducible first | exact HB.out | exact Below.refl _ _ | apply below_alloc | apply pw_below_drewN | apply below_drew1 | refine below_set ?_ GE101.out) | exact HB.out))); (case side1 => repeat (first | exact (Kd.C_below HR0_3.out HB.out) | (with_reducible refine Kd.C_alloc ?_ _) | (with_reducible refine Kd.C_drewN ?_ _) | (with_reducible refine Kd.C_drew ?_))); (case side2 => exact HC0_3.out); rintro e w11 ⟨rfl, hb⟩; have n0_ := Aside0.mk (blk_below (g := gb101) (o := .cells #[.int .i64 a0_0, .string a0_1, .string a0_2, .slice A0_3 l0_3.length c0_3] 24 (0, 0)) (by (with_reducible repeat (first | refine blk_drewN ?_ _ | refine blk_drew ?_ | refine blk_alloc ?_ _)); exact BK101.out) hb); have n1_ := Aside0.mk (below_step (by repeat (first | (with_reducible first | exact HB.out | apply below_alloc | apply pw_below_drewN | apply below_drew1 | refine below_set ?_ GE101.out) | exact HB.out)) hb); clear BK101; clear HB; have BK101 := n0_; have HB := n1_; clear n0_ n1_; (try clear hb); (try clear hb2); (try clear hk); (try clear hi); have hcz12_0 : w11.cell? ⟨gb101, 0, none⟩ = some (.int .i64 a0_0) := (blk_cell BK101.out 0).trans rfl; have hcz12_1 : w11.cell? ⟨gb101, 1, none⟩ = some (.string a0_1) := (blk_cell BK101.out 1).trans rfl; have hcz12_2 : w11.cell? ⟨gb101, 2, none⟩ = some (.string a0_2) := (blk_cell BK101.out 2).trans rfl; have hcz12_3 : w11.cell? ⟨gb101, 3, none⟩ = some (.slice A0_3 l0_3.length c0_3) := (blk_cell BK101.out 3).trans rfl; have hfz12_0 := blk_frozen BK101.out 0; have hfz12_1 := blk_frozen BK101.out 1; have hfz12_2 := blk_frozen BK101.out 2; have hfz12_3 := blk_frozen BK101.out 3) | (go_at_call 48; (with_reducible refine (expr_few.calls a0_0 a0_1 a0_2 _ _ l0_3 t104 _ ?side1 ?side2 A6.out).mono ?_); (case side1 => repeat (first | exact (Kd.C_below HR0_3.out HB.out) | (with_reducible refine Kd.C_alloc ?_ _) | (with_reducible refine Kd.C_drewN ?_ _) | (with_reducible refine Kd.C_drew ?_))); (case side2 => exact HC0_3.out); rintro e w13 ⟨rfl, hb⟩; have n0_ := Aside0.mk (blk_below (g := gb101) (o := .cells #[.int .i64 a0_0, .string a0_1, .string a0_2, .slice A0_3 l0_3.length c0_3] 24 (0, 0)) (by (with_reducible repeat (first | refine blk_drewN ?_ _ | refine blk_drew ?_ | refine blk_alloc ?_ _)); exact BK101.out) hb); have n1_ := Aside0.mk (below_step (by repeat (first | (with_reducible first | exact HB.out | apply below_alloc | apply pw_below_drewN | apply below_drew1 | refine below_set ?_ GE101.out) | exact HB.out)) hb); clear BK101; clear HB; have BK101 := n0_; have HB := n1_; clear n0_ n1_; (try clear hb); (try clear hb2); (try clear hk); (try clear hi)))
      go_ret
      exact ⟨by first | rfl | (simp [errW_none, errW_some] <;> rfl) | (simp [*, errW_none, errW_some] <;> rfl), by repeat (first | (with_reducible first | exact HB.out | apply below_alloc | apply pw_below_drewN | apply below_drew1 | refine below_set ?_ GE101.out) | exact HB.out)⟩
    · replace c5 := Bool.eq_false_iff.mpr c5
      subst c5
      have H1 : (some false) = some r := by rw [if_neg (show ¬ (false = true) by decide)] at H; exact H
      clear H
      have H := H1
      clear H1
      obtain rfl := Option.some.inj H
      go_enter Tryd.func17, Tryd.ntmps17
      go_wp2_with (first | ((with_reducible refine gate_dst (N := 1) rfl ?_); refine box_event ?hg (N := 1) ?hd (cs := #[.int .i64 a0_0, .string a0_1, .string a0_2, .slice A0_3 l0_3.length c0_3]) (t := 24) ?hr ?_; (case hd => rfl); (case hg => rfl); (case hr => first | (go_simp; done) | (go_simp; rfl)); intro gb101 hg w14 hbox hb; have n0_ := Aside0.mk (below_step (by repeat (first | (with_reducible first | exact HB.out | apply below_alloc | apply pw_below_drewN | apply below_drew1) | exact HB.out)) hb); have n1_ := Aside0.mk (hbox); have n2_ := Aside0.mk ((by rw [hg]; exact (below_size (by repeat (first | (with_reducible first | exact HB.out | apply below_alloc | apply pw_below_drewN | apply below_drew1) | exact HB.out))) : w.heap.size ≤ gb101)); have n3_ := Aside0.mk ((by rw [hg]; exact (below_size (by repeat (first | (with_reducible first | exact HB.out | apply below_alloc | apply pw_below_drewN | apply below_drew1) | exact HB.out))) : w.heap.size ≤ gb101)); clear HB; have HB := n0_; have BK101 := n1_; have GW101 := n2_; have GE101 := n3_; clear n0_ n1_ n2_ n3_; clear hb hbox hg; have hcz15_0 : w14.cell? ⟨gb101, 0, none⟩ = some (.int .i64 a0_0) := (blk_cell BK101.out 0).trans rfl; have hcz15_1 : w14.cell? ⟨gb101, 1, none⟩ = some (.string a0_1) := (blk_cell BK101.out 1).trans rfl; have hcz15_2 : w14.cell? ⟨gb101, 2, none⟩ = some (.string a0_2) := (blk_cell BK101.out 2).trans rfl; have hcz15_3 : w14.cell? ⟨gb101, 3, none⟩ = some (.slice A0_3 l0_3.length c0_3) := (blk_cell BK101.out 3).trans rfl; have hfz15_0 := blk_frozen BK101.out 0; have hfz15_1 := blk_frozen BK101.out 1; have hfz15_2 := blk_frozen BK101.out 2; have hfz15_3 := blk_frozen BK101.out 3) | ((with_reducible refine gate_callee (f := 18) rfl ?_); refine goesL_ (some 4) rfl rfl Tryd.func18 (by kernel_rfl) rfl #[.agg #[.int .i64 a0_0, .string a0_1, .string a0_2, .slice A0_3 l0_3.length c0_3]] rfl (by (try simp only [List.map_toArray, List.map_cons, List.map_nil]); first | done | rfl | (simp only [List.length_drop, List.length_take]; rfl)) ?_; (with_reducible refine (expr_Depth.calls k a0_0 a0_1 a0_2 _ _ l0_3 t102 _ ?side1 ?side2 A2.out).mono ?_); (case side1 => repeat (first | exact (Kd.C_below HR0_3.out HB.out) | (with_reducible refine Kd.C_alloc ?_ _) | (with_reducible refine Kd.C_drewN ?_ _) | (with_reducible refine Kd.C_drew ?_))); (case side2 => exact HC0_3.out); rintro e w16 ⟨rfl, hb⟩; refine ⟨_, rfl, ?_⟩; have n0_ := Aside0.mk (blk_below (g := gb101) (o := .cells #[.int .i64 a0_0, .string a0_1, .string a0_2, .slice A0_3 l0_3.length c0_3] 24 (0, 0)) (by (with_reducible repeat (first | refine blk_drewN ?_ _ | refine blk_drew ?_ | refine blk_alloc ?_ _)); exact BK101.out) hb); have n1_ := Aside0.mk (below_step (by repeat (first | (with_reducible first | exact HB.out | apply below_alloc | apply pw_below_drewN | apply below_drew1 | refine below_set ?_ GE101.out) | exact HB.out)) hb); clear BK101; clear HB; have BK101 := n0_; have HB := n1_; clear n0_ n1_; (try clear hb); (try clear hb2); (try clear hk); (try clear hi); have hcz17_0 : w16.cell? ⟨gb101, 0, none⟩ = some (.int .i64 a0_0) := (blk_cell BK101.out 0).trans rfl; have hcz17_1 : w16.cell? ⟨gb101, 1, none⟩ = some (.string a0_1) := (blk_cell BK101.out 1).trans rfl; have hcz17_2 : w16.cell? ⟨gb101, 2, none⟩ = some (.string a0_2) := (blk_cell BK101.out 2).trans rfl; have hcz17_3 : w16.cell? ⟨gb101, 3, none⟩ = some (.slice A0_3 l0_3.length c0_3) := (blk_cell BK101.out 3).trans rfl; have hfz17_0 := blk_frozen BK101.out 0; have hfz17_1 := blk_frozen BK101.out 1; have hfz17_2 := blk_frozen BK101.out 2; have hfz17_3 := blk_frozen BK101.out 3) | (go_at_call 47; (with_reducible refine (expr_form.calls a0_0 a0_1 a0_2 _ _ l0_3 false _ ?sideL ?side1 ?side2 A4.out).mono ?_); (case sideL => exact HL.out.below (by repeat (first | (with_reducible first | exact HB.out | exact Below.refl _ _ | apply below_alloc | apply pw_below_drewN | apply below_drew1 | refine below_set ?_ GE101.out) | exact HB.out))); (case side1 => repeat (first | exact (Kd.C_below HR0_3.out HB.out) | (with_reducible refine Kd.C_alloc ?_ _) | (with_reducible refine Kd.C_drewN ?_ _) | (with_reducible refine Kd.C_drew ?_))); (case side2 => exact HC0_3.out); rintro e w18 ⟨rfl, hb⟩; have n0_ := Aside0.mk (blk_below (g := gb101) (o := .cells #[.int .i64 a0_0, .string a0_1, .string a0_2, .slice A0_3 l0_3.length c0_3] 24 (0, 0)) (by (with_reducible repeat (first | refine blk_drewN ?_ _ | refine blk_drew ?_ | refine blk_alloc ?_ _)); exact BK101.out) hb); have n1_ := Aside0.mk (below_step (by repeat (first | (with_reducible first | exact HB.out | apply below_alloc | apply pw_below_drewN | apply below_drew1 | refine below_set ?_ GE101.out) | exact HB.out)) hb); clear BK101; clear HB; have BK101 := n0_; have HB := n1_; clear n0_ n1_; (try clear hb); (try clear hb2); (try clear hk); (try clear hi)))
      go_ret
      exact ⟨by first | rfl | (simp [errW_none, errW_some] <;> rfl) | (simp [*, errW_none, errW_some] <;> rfl), by repeat (first | (with_reducible first | exact HB.out | apply below_alloc | apply pw_below_drewN | apply below_drew1 | refine below_set ?_ GE101.out) | exact HB.out)⟩
  · rw [if_neg c3] at H
    have c3b0 : decide (t102 ≤ 16) = false := decide_eq_false c3
    clear c3
    obtain rfl := Option.some.inj H
    go_enter Tryd.func17, Tryd.ntmps17
    go_wp2_with (first | ((with_reducible refine gate_dst (N := 1) rfl ?_); refine box_event ?hg (N := 1) ?hd (cs := #[.int .i64 a0_0, .string a0_1, .string a0_2, .slice A0_3 l0_3.length c0_3]) (t := 24) ?hr ?_; (case hd => rfl); (case hg => rfl); (case hr => first | (go_simp; done) | (go_simp; rfl)); intro gb101 hg w19 hbox hb; have n0_ := Aside0.mk (below_step (by repeat (first | (with_reducible first | exact HB.out | apply below_alloc | apply pw_below_drewN | apply below_drew1) | exact HB.out)) hb); have n1_ := Aside0.mk (hbox); have n2_ := Aside0.mk ((by rw [hg]; exact (below_size (by repeat (first | (with_reducible first | exact HB.out | apply below_alloc | apply pw_below_drewN | apply below_drew1) | exact HB.out))) : w.heap.size ≤ gb101)); have n3_ := Aside0.mk ((by rw [hg]; exact (below_size (by repeat (first | (with_reducible first | exact HB.out | apply below_alloc | apply pw_below_drewN | apply below_drew1) | exact HB.out))) : w.heap.size ≤ gb101)); clear HB; have HB := n0_; have BK101 := n1_; have GW101 := n2_; have GE101 := n3_; clear n0_ n1_ n2_ n3_; clear hb hbox hg; have hcz20_0 : w19.cell? ⟨gb101, 0, none⟩ = some (.int .i64 a0_0) := (blk_cell BK101.out 0).trans rfl; have hcz20_1 : w19.cell? ⟨gb101, 1, none⟩ = some (.string a0_1) := (blk_cell BK101.out 1).trans rfl; have hcz20_2 : w19.cell? ⟨gb101, 2, none⟩ = some (.string a0_2) := (blk_cell BK101.out 2).trans rfl; have hcz20_3 : w19.cell? ⟨gb101, 3, none⟩ = some (.slice A0_3 l0_3.length c0_3) := (blk_cell BK101.out 3).trans rfl; have hfz20_0 := blk_frozen BK101.out 0; have hfz20_1 := blk_frozen BK101.out 1; have hfz20_2 := blk_frozen BK101.out 2; have hfz20_3 := blk_frozen BK101.out 3) | ((with_reducible refine gate_callee (f := 18) rfl ?_); refine goesL_ (some 4) rfl rfl Tryd.func18 (by kernel_rfl) rfl #[.agg #[.int .i64 a0_0, .string a0_1, .string a0_2, .slice A0_3 l0_3.length c0_3]] rfl (by (try simp only [List.map_toArray, List.map_cons, List.map_nil]); first | done | rfl | (simp only [List.length_drop, List.length_take]; rfl)) ?_; (with_reducible refine (expr_Depth.calls k a0_0 a0_1 a0_2 _ _ l0_3 t102 _ ?side1 ?side2 A2.out).mono ?_); (case side1 => repeat (first | exact (Kd.C_below HR0_3.out HB.out) | (with_reducible refine Kd.C_alloc ?_ _) | (with_reducible refine Kd.C_drewN ?_ _) | (with_reducible refine Kd.C_drew ?_))); (case side2 => exact HC0_3.out); rintro e w21 ⟨rfl, hb⟩; refine ⟨_, rfl, ?_⟩; have n0_ := Aside0.mk (blk_below (g := gb101) (o := .cells #[.int .i64 a0_0, .string a0_1, .string a0_2, .slice A0_3 l0_3.length c0_3] 24 (0, 0)) (by (with_reducible repeat (first | refine blk_drewN ?_ _ | refine blk_drew ?_ | refine blk_alloc ?_ _)); exact BK101.out) hb); have n1_ := Aside0.mk (below_step (by repeat (first | (with_reducible first | exact HB.out | apply below_alloc | apply pw_below_drewN | apply below_drew1 | refine below_set ?_ GE101.out) | exact HB.out)) hb); clear BK101; clear HB; have BK101 := n0_; have HB := n1_; clear n0_ n1_; (try clear hb); (try clear hb2); (try clear hk); (try clear hi)))
    go_ret
    exact ⟨by first | rfl | (simp [errW_none, errW_some] <;> rfl) | (simp [*, errW_none, errW_some] <;> rfl), by repeat (first | (with_reducible first | exact HB.out | apply below_alloc | apply pw_below_drewN | apply below_drew1 | refine below_set ?_ GE101.out) | exact HB.out)⟩
end Go.Proofs.YtigghbfcflnoeaaDoor.Y
end
