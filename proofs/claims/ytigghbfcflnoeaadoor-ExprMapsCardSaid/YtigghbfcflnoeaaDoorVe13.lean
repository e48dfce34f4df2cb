/- A part of the proof of the claim's statement: plain laws and walks (some printed by a program over the kit's printer). It has no conditions of its own. -/
import Derived.Test.YtigghbfcflnoeaaDoorVe6
import Derived.Test.YtigghbfcflnoeaaDoorVe9
import Derived.Test.YtigghbfcflnoeaaDoorVe5
import Derived.Test.YtigghbfcflnoeaaDoorVe10
import Derived.Test.YtigghbfcflnoeaaDoorVe12
import Derived.RangeFuncNested
import Derived.RangeFuncBound
import Derived.RangeFuncCalls
import Derived.RangeFuncLeaves
import Derived.OwnWalkIn
import Derived.TacticsInMore
import Derived.LoopNIn
import Derived.LoopIn
import Derived.Laws.EntriesVeiled
section
namespace Go.Proofs.YtigghbfcflnoeaaDoor.Y
open Go.RowKit Go.Proofs.YtigghbfcflnoeaaDoorW.PrintWords Go.Proofs.YtigghbfcflnoeaaDoorW.PrintLast Go.Proofs.YtigghbfcflnoeaaDoorW.PrintMore
attribute [local go_sem] max2_int min2_int max_two min_two max_three min_three max_four min_four
set_option linter.unusedVariables false
set_option linter.unusedSimpArgs false
attribute [local go_sem] Oper.semAt_some
theorem room_none {F : Fence} (hd : F.depth = none) (k : Nat) : F.room k := fun d h => by rw [hd] at h; cases h
theorem RoundIn_any {F : Fence} (hd : F.depth = none) {m m' : Nat} {P : Program} {l : Nat} {f : FuncId} {tmps : Array Value} {assign body : Code} {w : World} {R : Ending → World → Prop}
    (h : RoundIn F m P l f tmps assign body w R) : RoundIn F m' P l f tmps assign body w R := ⟨h.1, fun c cs _ => h.2 c cs (room_none hd _)⟩
theorem YieldAt_any {F : Fence} (hd : F.depth = none) {m : Nat} (m' : Nat) {P : Program} {l : Nat} {args : Array Value} {W : World} {R : Ending → World → Prop} (h : YieldAt F m P l args W R) : YieldAt F m' P l args W R := by
  obtain ⟨fn, tmps, assign, body, hy, hR⟩ := h
  exact ⟨fn, tmps, assign, body, hy, RoundIn_any hd hR⟩
structure KpL (n₀ n₁ : Nat) (W W' : World) : Prop where
  low : Below n₀ W W'
  new : ∀ k, n₁ ≤ k → k < W.heap.size → ∀ cs t f, W.heap[k]? = some (.cells cs t f) → W'.heap[k]? = W.heap[k]?
theorem KpL.refl (n₀ n₁ : Nat) (W : World) : KpL n₀ n₁ W W := ⟨Below.refl _ _, fun _ _ _ _ _ _ _ => rfl⟩
theorem KpL.trans {n₀ n₁ : Nat} {A B C : World} (h : KpL n₀ n₁ A B) (k : KpL n₀ n₁ B C) : KpL n₀ n₁ A C :=
  ⟨h.low.trans k.low, fun i hi hl cs t f hc => by
    have e := h.new i hi hl cs t f hc
    exact (k.new i hi (Nat.lt_of_lt_of_le hl h.low.size) cs t f (e.trans hc)).trans e⟩
theorem KpL.of_below {n₀ n₁ : Nat} {W W' : World} (h : Below W.heap.size W W') (hn : n₀ ≤ W.heap.size) : KpL n₀ n₁ W W' :=
  ⟨h.mono hn, fun k _ hk _ _ _ _ => h.block k hk⟩
theorem KpL.putObj {n₀ n₁ : Nat} (h01 : n₀ ≤ n₁) (W : World) (l : Nat) (o o' : Obj) (hl : n₁ ≤ l) (ho : W.heap[l]? = some o) (hc : o.isCells = false) : KpL n₀ n₁ W (W.putObj l o') :=
  ⟨⟨rfl, rfl, rfl, by simp, fun k hk => World.putObj_heap_other (by omega)⟩, fun k hk hlt cs t f he => World.putObj_heap_other (by
    intro e
    subst e
    rw [he] at ho
    injection ho with ho
    subst ho
    simp [Obj.isCells] at hc)⟩
theorem KpL.blk {n₀ n₁ : Nat} {W W' : World} (h : KpL n₀ n₁ W W') {k : Nat} {cs : Array Value} {t : TypeId} {f : Nat × Nat} (hk : n₁ ≤ k) (hc : W.heap[k]? = some (.cells cs t f)) : W'.heap[k]? = some (.cells cs t f) :=
  (h.new k hk (Array.getElem?_eq_some_iff.1 hc).1 cs t f hc).trans hc
theorem KpL.setCell {n₀ n₁ : Nat} (W : World) (a : Addr) (v : Value) (h0 : n₀ ≤ a.block) (h1 : a.block < n₁) : KpL n₀ n₁ W (W.setCell a v) :=
  ⟨(Below.refl n₀ W).setCell h0 _, fun k hk _ _ _ _ _ => Below.heap_setCell W a v k (by omega)⟩
def leafk (a : Int) : Bool := if a = 3 then false else if a = 4 then false else a != 5
theorem leaf_f (a : Int) (b c : ByteArray) (l : List S24) : expr_part_leaf.f a b c l = some (leafk a) := by
  simp only [expr_part_leaf.f, leafk]
  split
  · rfl
  · split <;> rfl
def leavesB : S24 → List S24
  | ⟨a, b, c, l⟩ => if leafk a = true then [⟨a, b, c, l⟩] else leavesL l
where leavesL : List S24 → List S24
  | [] => []
  | x :: xs => leavesB x ++ leavesL xs
theorem leavesL_flat (l : List S24) : leavesB.leavesL l = l.flatMap leavesB := by
  induction l with
  | nil => simp [leavesB.leavesL]
  | cons x xs ih => simp [leavesB.leavesL, ih]
theorem leavesB_leaf (x : S24) (h : leafk x.f0 = true) : leavesB x = [x] := by
  cases x
  rw [leavesB, if_pos h]
theorem leavesB_node (x : S24) (h : leafk x.f0 = false) : leavesB x = x.f3.flatMap leavesB := by
  obtain ⟨a, b, c, l⟩ := x
  have h' : ¬ leafk a = true := by rw [show leafk a = false from h]; simp
  rw [leavesB, if_neg h', leavesL_flat]
abbrev LeafV (w : World) := { p : S24 × Option Addr × Nat // Kd.C k24 w p.2.1 p.1.f3.length p.1.f3 ∧ p.1.f3.length ≤ p.2.2 }
def LeafV.val {w : World} (p : LeafV w) : Value := exV p.1.1 p.1.2.1 p.1.2.2
def exprs {w : World} (ys : List (LeafV w)) : List S24 := ys.map (·.1.1)
theorem exprs_append {w : World} (xs ys : List (LeafV w)) : exprs (xs ++ ys) = exprs xs ++ exprs ys := by simp [exprs]
structure Boxes (l By Bv : Nat) (W : World) : Prop where
  y : W.heap[By]? = some (.cells #[.func (.yield l) #[] #[]] 26 (0, 0))
  v : W.heap[Bv]? = some (.cells #[.func (.func 56) #[] #[.pointer (some ⟨By, 0, none⟩), .pointer (some ⟨Bv, 0, none⟩)]] 26 (0, 0))
theorem Boxes.kept {l By Bv n₀ n₁ : Nat} {W W' : World} (h : Boxes l By Bv W) (k : KpL n₀ n₁ W W') (hy : n₁ ≤ By) (hv : n₁ ≤ Bv) : Boxes l By Bv W' := ⟨k.blk hy h.y, k.blk hv h.v⟩
def VisitPost (w : World) (n₁ : Nat) (J Jx : List (LeafV w) → World → Prop) (yes no : Bool) (pre : List (LeafV w)) (ls : List S24) (W : World) (e : Ending) (W' : World) : Prop :=
  (e = .returned (.bool yes) ∧ ∃ ys, exprs ys = ls ∧ J (pre ++ ys) W' ∧ KpL w.heap.size n₁ W W') ∨ (e = .returned (.bool no) ∧ ∃ ys, exprs ys <+: ls ∧ Jx (pre ++ ys) W')
def VisitAt (w : World) (n₁ l By Bv N : Nat) (J Jx : List (LeafV w) → World → Prop) (x : S24) : Prop :=
  ∀ A c pre W, Kd.C k24 w A x.f3.length x.f3 → x.f3.length ≤ c → Below w.heap.size w W → Boxes l By Bv W → J pre W → pre.length + (leavesB x).length ≤ N →
    Calls Tryd.prog 56 #[exV x A c, .pointer (some ⟨By, 0, none⟩), .pointer (some ⟨Bv, 0, none⟩)] W (VisitPost w n₁ J Jx true false pre (leavesB x) W)
set_option maxHeartbeats 4000000 in
set_option maxRecDepth 100000 in
theorem visit1_calls {w : World} {n₁ l By Bv N : Nat} {J Jx : List (LeafV w) → World → Prop} {x : S24} (h01 : w.heap.size ≤ n₁) (hv : n₁ ≤ Bv) (hy : n₁ ≤ By)
    (hJ : ∀ s W W', J s W → Below W.heap.size W W' → J s W') (H : VisitAt w n₁ l By Bv N J Jx x) (A : Option Addr) (c : Nat) (pre : List (LeafV w)) (W : World)
    (hC : Kd.C k24 w A x.f3.length x.f3) (hc : x.f3.length ≤ c) (hb : Below w.heap.size w W) (hB : Boxes l By Bv W) (h0 : J pre W) (hN : pre.length + (leavesB x).length ≤ N) :
    Calls Tryd.prog 59 #[exV x A c, .pointer (some ⟨Bv, 0, none⟩)] W (VisitPost w n₁ J Jx false true pre (leavesB x) W) := by
  have k1 : KpL w.heap.size n₁ W (W.alloc (.cells #[.int .i64 x.f0, .string x.f1, .string x.f2, .slice A x.f3.length c] 24)) := .of_below (below_alloc (Below.refl _ _) _) hb.size
  have HC := Aside0.mk (H A c pre _ hC hc (hb.trans k1.low) (hB.kept k1 hy hv) (hJ _ _ _ h0 (below_alloc (Below.refl _ _) _)) hN)
  have K1 := Aside0.mk k1
  have z : (W.alloc (.cells #[.int .i64 x.f0, .string x.f1, .string x.f2, .slice A x.f3.length c] 24)).cell? ⟨Bv, 0, none⟩ = some (.func (.func 56) #[] #[.pointer (some ⟨By, 0, none⟩), .pointer (some ⟨Bv, 0, none⟩)]) := (blk_cell (hB.kept k1 hy hv).v 0).trans rfl
  have hlt := (Array.getElem?_eq_some_iff.1 hB.v).1
  clear H hC hb hB h0 hN k1 hJ
  generalize leavesB x = ls at HC
  obtain ⟨f0, f1, f2, f3⟩ := x
  go_enter Tryd.func59, Tryd.ntmps59
  go_wp2_with fail
  refine HC.out.mono ?_
  clear HC z
  rintro e w' (⟨rfl, ys, h1, h2, h3⟩ | ⟨rfl, ys, h1, h2⟩)
  · have H := Aside0.mk (And.intro h1 (And.intro h2 h3))
    clear h1 h2 h3
    go_wp2
    go_ret
    exact .inl ⟨rfl, ys, H.out.1, H.out.2.1, K1.out.trans H.out.2.2⟩
  · have H := Aside0.mk (And.intro h1 h2)
    clear h1 h2
    go_wp2
    go_ret
    exact .inr ⟨rfl, ys, H.out.1, H.out.2⟩
set_option maxHeartbeats 4000000 in
set_option maxRecDepth 100000 in
theorem visit_node {w : World} {n₁ l By Bv N : Nat} {J Jx : List (LeafV w) → World → Prop} {x : S24} (h01 : w.heap.size ≤ n₁) (hv : n₁ ≤ Bv) (hy : n₁ ≤ By)
    (hJ : ∀ s W W', J s W → Below W.heap.size W W' → J s W') (hlf : leafk x.f0 = false) (H : ∀ y ∈ x.f3, VisitAt w n₁ l By Bv N J Jx y) : VisitAt w n₁ l By Bv N J Jx x := by
  intro A c pre W hC hc hb hB h0 hN
  rw [leavesB_node x hlf] at hN ⊢
  have F := Aside0.mk ((leaf_f x.f0 x.f1 x.f2 x.f3).trans (congrArg some hlf))
  have HC := Aside0.mk hC
  have Hc := Aside0.mk hc
  have HB0 := Aside0.mk hb
  have HBX := Aside0.mk hB
  have HH := Aside0.mk (fun (W2 : World) (B2 : Below W.heap.size W W2) => ContainsFunc_inv 59 #[.pointer (some ⟨Bv, 0, none⟩)] A c x.f3 w W2
    (fun i W' => ∃ ys, exprs ys = (x.f3.take i).flatMap leavesB ∧ J (pre ++ ys) W' ∧ KpL w.heap.size n₁ W W')
    (fun i W' => ∃ ys, exprs ys <+: x.f3.flatMap leavesB ∧ Jx (pre ++ ys) W')
    hC (fun i W' ⟨ys, _, _, hk⟩ => hb.trans hk.low) (enters_of Tryd.func59 (by kernel_rfl) rfl)
    (fun i h W' A' c' ⟨ys, he, hj, hk⟩ hc' hC' => by
      have hsplit : (x.f3.take (i + 1)).flatMap leavesB = (x.f3.take i).flatMap leavesB ++ leavesB x.f3[i] := by
        rw [List.take_succ_eq_append_getElem h, List.flatMap_append]; simp
      have hpre : (x.f3.take (i + 1)).flatMap leavesB <+: x.f3.flatMap leavesB := by
        conv => rhs; rw [← List.take_append_drop (i + 1) x.f3, List.flatMap_append]
        exact List.prefix_append _ _
      have hlen := hpre.length_le
      have hel : (exprs ys).length = ys.length := by simp [exprs]
      refine (visit1_calls h01 hv hy hJ (H _ (List.getElem_mem h)) A' c' (pre ++ ys) W' hC' hc' (hb.trans hk.low) (hB.kept hk hy hv) hj ?_).mono ?_
      · rw [hsplit, List.length_append, ← he, hel] at hlen
        rw [List.length_append]
        omega
      · rintro e W3 (⟨rfl, zs, h1, h2, h3⟩ | ⟨rfl, zs, h1, h2⟩)
        · exact .inl ⟨rfl, ys ++ zs, by rw [exprs_append, he, h1, hsplit], by rw [← List.append_assoc]; exact h2, hk.trans h3⟩
        · exact .inr ⟨rfl, ys ++ zs, by
            rw [exprs_append, he]
            refine List.IsPrefix.trans ?_ hpre
            rw [hsplit]
            exact (List.prefix_append_right_inj _).2 h1, by rw [← List.append_assoc]; exact h2⟩)
    ⟨[], by simp [exprs], by simpa using hJ _ _ _ h0 B2, .of_below B2 hb.size⟩)
  clear hC hc hb hB h0 hN hlf H hJ
  go_enter Tryd.func56, Tryd.ntmps56
  go_wp2_with fail
  refine (expr_part_leaf.calls x.f0 x.f1 x.f2 A c x.f3 false _ (Kd.C_below HC.out (HB0.out.trans (Below.mono (below_alloc (Below.refl _ _) _) HB0.out.size))) Hc.out F.out).mono ?_
  rintro e W2 ⟨rfl, hb2⟩
  have B2 := Aside0.mk (below_step (below_alloc (Below.refl W.heap.size W) (.cells #[.int .i64 x.f0, .string x.f1, .string x.f2, .slice A x.f3.length c] 24)) hb2)
  have bk := blk_below (blk_new W (.cells #[.int .i64 x.f0, .string x.f1, .string x.f2, .slice A x.f3.length c] 24)) hb2
  have z3 : W2.cell? ⟨W.heap.size, 3, none⟩ = some (.slice A x.f3.length c) := (blk_cell bk 3).trans rfl
  clear hb2 bk
  go_wp2_with fail
  refine (HH.out W2 B2.out).mono ?_
  clear HH z3
  rintro e W3 (⟨rfl, ys, h1, h2, h3⟩ | ⟨i, hi, rfl, ys, h1, h2⟩)
  · have H := Aside0.mk (And.intro h1 (And.intro h2 h3))
    clear h1 h2 h3
    go_wp2
    go_ret
    exact .inl ⟨rfl, ys, by rw [H.out.1, List.take_length], H.out.2.1, H.out.2.2⟩
  · have H := Aside0.mk (And.intro h1 h2)
    clear h1 h2
    go_wp2
    go_ret
    exact .inr ⟨rfl, ys, H.out.1, H.out.2⟩
set_option maxHeartbeats 4000000 in
set_option maxRecDepth 100000 in
theorem visit_leaf {w : World} {n₁ l By Bv N : Nat} {J Jx : List (LeafV w) → World → Prop} {x : S24} (h01 : w.heap.size ≤ n₁) (hv : n₁ ≤ Bv) (hy : n₁ ≤ By)
    (hJ : ∀ s W W', J s W → Below W.heap.size W W' → J s W') (hlf : leafk x.f0 = true)
    (hY : ∀ m pre (p : LeafV w) W, J pre W → pre.length < N → YieldAt Fence.wide m Tryd.prog l #[p.val] W fun e W' =>
      (e = .returned (.bool true) ∧ J (pre ++ [p]) W' ∧ KpL w.heap.size n₁ W W') ∨ (e = .returned (.bool false) ∧ Jx (pre ++ [p]) W')) : VisitAt w n₁ l By Bv N J Jx x := by
  intro A c pre W hC hc hb hB h0 hN
  rw [leavesB_leaf x hlf] at hN ⊢
  have F := Aside0.mk ((leaf_f x.f0 x.f1 x.f2 x.f3).trans (congrArg some hlf))
  obtain ⟨p, hp1, hp2⟩ : ∃ p : LeafV w, p.val = exV x A c ∧ p.1.1 = x := ⟨⟨(x, A, c), hC, hc⟩, rfl, rfl⟩
  have HP := Aside0.mk hp2
  have HC := Aside0.mk hC
  have Hc := Aside0.mk hc
  have HB0 := Aside0.mk hb
  have HBX := Aside0.mk hB
  have hN' : pre.length < N := by simp at hN; omega
  have JJ := Aside0.mk (fun W' (h : Below W.heap.size W W') => hp1 ▸ hY 5 pre p W' (hJ _ _ _ h0 h) hN')
  clear hC hc hb h0 hN hN' hlf hY hJ hp1 hp2 hB
  refine (callsIn_wide (n := 7)).1 ?_
  refine callsIn_of_wp Tryd.func56 rfl trivial ?_ rfl
  simp only [Tryd.ntmps56, List.size_toArray, List.length_cons, List.length_nil, Nat.reduceAdd, Nat.reduceSub, Array.replicate_succ, Array.replicate_zero, List.push_toArray, List.append_toArray, List.nil_append, List.cons_append]
  gi_wp2_with fail
  refine ⟨trivial, (callsIn_wide.2 (expr_part_leaf.calls x.f0 x.f1 x.f2 A c x.f3 true _ (Kd.C_below HC.out (HB0.out.trans (Below.mono (below_alloc (Below.refl _ _) _) HB0.out.size))) Hc.out F.out)).mono ?_⟩
  rintro e W2 ⟨rfl, hb2⟩
  have B2 := Aside0.mk (below_step (below_alloc (Below.refl W.heap.size W) (.cells #[.int .i64 x.f0, .string x.f1, .string x.f2, .slice A x.f3.length c] 24)) hb2)
  have bk := blk_below (blk_new W (.cells #[.int .i64 x.f0, .string x.f1, .string x.f2, .slice A x.f3.length c] 24)) hb2
  have z0 : W2.cell? ⟨W.heap.size, 0, none⟩ = some (.int .i64 x.f0) := (blk_cell bk 0).trans rfl
  have z1 : W2.cell? ⟨W.heap.size, 1, none⟩ = some (.string x.f1) := (blk_cell bk 1).trans rfl
  have z2 : W2.cell? ⟨W.heap.size, 2, none⟩ = some (.string x.f2) := (blk_cell bk 2).trans rfl
  have z3 : W2.cell? ⟨W.heap.size, 3, none⟩ = some (.slice A x.f3.length c) := (blk_cell bk 3).trans rfl
  have zy : W2.cell? ⟨By, 0, none⟩ = some (.func (.yield l) #[] #[]) := (blk_cell (blk_below HBX.out.y B2.out) 0).trans rfl
  clear hb2 bk
  obtain ⟨fn, tmps, assign, body, hyy, hR⟩ := JJ.out W2 B2.out
  have K2 := Aside0.mk (KpL.of_below (n₁ := n₁) B2.out HB0.out.size)
  clear JJ
  gi_wp2_with fail
  refine (RoundIn_any rfl hR).mono ?_
  rintro e W3 (⟨rfl, h1, h2⟩ | ⟨rfl, h1⟩)
  · have H := Aside0.mk (And.intro h1 h2)
    clear h1 h2 hyy hR z0 z1 z2 z3 zy
    gi_wp2
    go_ret
    exact .inl ⟨rfl, [p], by simp [exprs, HP.out], H.out.1, K2.out.trans H.out.2⟩
  · have H := Aside0.mk h1
    clear h1 hyy hR z0 z1 z2 z3 zy
    gi_wp2
    go_ret
    exact .inr ⟨rfl, [p], by simp [exprs, HP.out], H.out⟩
theorem visit_all {w : World} {n₁ l By Bv N : Nat} {J Jx : List (LeafV w) → World → Prop} (h01 : w.heap.size ≤ n₁) (hv : n₁ ≤ Bv) (hy : n₁ ≤ By)
    (hJ : ∀ s W W', J s W → Below W.heap.size W W' → J s W')
    (hY : ∀ m pre (p : LeafV w) W, J pre W → pre.length < N → YieldAt Fence.wide m Tryd.prog l #[p.val] W fun e W' =>
      (e = .returned (.bool true) ∧ J (pre ++ [p]) W' ∧ KpL w.heap.size n₁ W W') ∨ (e = .returned (.bool false) ∧ Jx (pre ++ [p]) W')) : ∀ x, VisitAt w n₁ l By Bv N J Jx x := by
  intro x
  induction x using S24.ind with
  | h x ih =>
    rcases (Bool.eq_false_or_eq_true (leafk x.f0)).symm with hl | hl
    · exact visit_node h01 hv hy hJ hl ih
    · exact visit_leaf h01 hv hy hJ hl hY
abbrev exBox (x : S24) (A : Option Addr) (c : Nat) : Obj := .cells #[.int .i64 x.f0, .string x.f1, .string x.f2, .slice A x.f3.length c] 24 (0, 0)
set_option maxHeartbeats 4000000 in
set_option maxRecDepth 100000 in
theorem leaves_stops (n : Nat) (w W0 : World) (x : S24) (A : Option Addr) (c Be : Nat) (hC : Kd.C k24 w A x.f3.length x.f3) (hc : x.f3.length ≤ c) (hb : Below w.heap.size w W0) (hBe : W0.heap[Be]? = some (exBox x A c)) :
    SeqStopsK Fence.wide n Tryd.prog 55 #[.pointer (some ⟨Be, 0, none⟩)] (fun p : LeafV w => #[p.val]) (KpL w.heap.size W0.heap.size)
      (fun ys => exprs ys = leavesB x) (fun pre => exprs pre <+: leavesB x) (leavesB x).length W0 := by
  intro l J Jx W hW hJ hJx hY h0
  have hJ' : ∀ s W1 W2, J s W1 → Below W1.heap.size W1 W2 → J s W2 := fun s W1 W2 h hb => hJ s W1 W2 none h (grown_of_below hb none) (fun r e => by cases e)
  have hB : Below w.heap.size w W := hb.trans (hW.mono hb.size)
  have hvis := visit_all (w := w) (n₁ := W0.heap.size) (l := l) (By := W.heap.size) (Bv := W.heap.size + 1) (N := (leavesB x).length) hb.size (Nat.le_succ_of_le hW.size) hW.size hJ' (fun m pre p W1 hj hl => YieldAt_any rfl m (hY pre p W1 hj hl)) x A c []
  obtain ⟨o1, ho1⟩ : ∃ o, o = Obj.cells #[.func (.yield l) #[] #[]] 26 (0, 0) := ⟨_, rfl⟩
  obtain ⟨o2, ho2⟩ : ∃ o, o = Obj.cells #[.func (.func 56) #[] #[.pointer (some ⟨W.heap.size, 0, none⟩), .pointer (some ⟨W.heap.size + 1, 0, none⟩)]] 26 (0, 0) := ⟨_, rfl⟩
  have hb2 : Below W.heap.size W ((W.alloc o1).alloc o2) := ((Below.refl _ W).alloc (Nat.le_refl _) _).alloc (by simp) _
  have HV := Aside0.mk (hvis ((W.alloc o1).alloc o2) hC hc (hB.trans (hb2.mono hB.size)) ⟨by rw [← ho1]; exact blk_alloc (blk_new W o1) o2, by rw [← ho2]; have := blk_new (W.alloc o1) o2; rwa [World.size_alloc] at this⟩ (hJ' _ _ _ h0 hb2) (by simp))
  have bk := blk_below hBe hW
  have z0 : W.cell? ⟨Be, 0, none⟩ = some (.int .i64 x.f0) := (blk_cell bk 0).trans rfl
  have z1 : W.cell? ⟨Be, 1, none⟩ = some (.string x.f1) := (blk_cell bk 1).trans rfl
  have z2 : W.cell? ⟨Be, 2, none⟩ = some (.string x.f2) := (blk_cell bk 2).trans rfl
  have z3 : W.cell? ⟨Be, 3, none⟩ = some (.slice A x.f3.length c) := (blk_cell bk 3).trans rfl
  have hlt := (Array.getElem?_eq_some_iff.1 bk).1
  subst ho1 ho2
  clear hvis hC hc hb hBe hW hJ hJx hY h0 hJ' hB hb2 bk
  refine callsIn_wide.2 ?_
  go_enter Tryd.func55, Tryd.ntmps55
  go_wp2_with fail
  refine HV.out.mono ?_
  clear HV z0 z1 z2 z3
  rintro e W3 (⟨rfl, ys, h1, h2, h3⟩ | ⟨rfl, ys, h1, h2⟩)
  · have H := Aside0.mk (And.intro h1 h2)
    clear h1 h2 h3
    go_wp2
    go_end0
    exact ⟨⟨_, rfl⟩, .inl ⟨ys, H.out.1, by simpa using H.out.2⟩⟩
  · have H := Aside0.mk (And.intro h1 h2)
    clear h1 h2
    go_wp2
    go_end0
    exact ⟨⟨_, rfl⟩, .inr ⟨ys, H.out.1, by simpa using H.out.2⟩⟩
set_option maxHeartbeats 1000000 in
set_option maxRecDepth 100000 in
theorem leaves_calls (x : S24) (A : Option Addr) (c : Nat) (w : World) :
    Calls Tryd.prog 25 #[exV x A c] w fun e w' => e = .returned (.func (.func 55) #[] #[.pointer (some ⟨w.heap.size, 0, none⟩)]) ∧ w' = w.alloc (exBox x A c) := by
  go_enter Tryd.func25, Tryd.ntmps25
  go_wp2
  go_ret
  exact ⟨rfl, rfl⟩
end Go.Proofs.YtigghbfcflnoeaaDoor.Y
end
section
namespace Go.Proofs.YtigghbfcflnoeaaDoor.Y
open Go.RowKit Go.Proofs.YtigghbfcflnoeaaDoorW.PrintWords Go.Proofs.YtigghbfcflnoeaaDoorW.PrintLast Go.Proofs.YtigghbfcflnoeaaDoorW.PrintMore
attribute [local go_sem] max2_int min2_int max_two min_two max_three min_three max_four min_four
set_option linter.unusedVariables false
set_option linter.unusedSimpArgs false
theorem rdT {l : List S24} {i : Nat} (h : i < l.length) : rd_T24 l (i : Int) = l[i] := by
  simp [rd_T24, List.getD_eq_getElem?_getD, List.getElem?_eq_getElem h]
theorem wrap_ok {x : Int} (h0 : -9223372036854775808 ≤ x) (h : x ≤ 9223372036854775807) : wrap64 x = x := by
  unfold wrap64
  omega
def bdB : S24 → Prop
  | ⟨_, b, c, l⟩ => b.size ≤ 140737488351232 ∧ c.size ≤ 140737488351232 ∧ l.length ≤ 2199023255488 ∧ bdL l
where bdL : List S24 → Prop
  | [] => True
  | x :: xs => bdB x ∧ bdL xs
theorem bdL_mem {l : List S24} : bdB.bdL l ↔ ∀ x ∈ l, bdB x := by
  induction l with
  | nil => simp [bdB.bdL]
  | cons x xs ih => simp [bdB.bdL, ih]
theorem bdB_eq (x : S24) : bdB x ↔ x.f1.size ≤ 140737488351232 ∧ x.f2.size ≤ 140737488351232 ∧ x.f3.length ≤ 2199023255488 ∧ ∀ y ∈ x.f3, bdB y := by
  cases x
  rw [bdB, bdL_mem]
def cntE : S24 → Int → Int
  | ⟨_, b, c, l⟩, d => if d > 30 then 500 else cntL l d (1 + (b.size : Int) / 200 + (c.size : Int) / 200)
where cntL : List S24 → Int → Int → Int
  | [], _, n => n
  | x :: xs, d, n => if n < 500 then cntL xs d (n + cntE x (d + 1)) else n
theorem cntE_eq (x : S24) (d : Int) : cntE x d = if d > 30 then 500 else cntE.cntL x.f3 d (1 + (x.f1.size : Int) / 200 + (x.f2.size : Int) / 200) := by
  cases x
  rw [cntE]
theorem cnt_bd : ∀ (x : S24), bdB x → ∀ d : Int, 0 ≤ d → d ≤ 31 → 0 ≤ cntE x d ∧ cntE x d ≤ 2199023255552 + 500 * (31 - d) := by
  intro x
  induction x using S24.ind with
  | h x ih =>
    intro hb d h0 h1
    obtain ⟨b1, b2, b3, b4⟩ := (bdB_eq x).1 hb
    rw [cntE_eq]
    split
    · omega
    · have key : ∀ (l : List S24), (∀ y ∈ l, y ∈ x.f3) → ∀ n : Int, 0 ≤ n → n ≤ 2199023255552 + 500 * (31 - d) → 0 ≤ cntE.cntL l d n ∧ cntE.cntL l d n ≤ 2199023255552 + 500 * (31 - d) := by
        intro l
        induction l with
        | nil => intro _ n h2 h3; rw [cntE.cntL]; exact ⟨h2, h3⟩
        | cons y ys ihl =>
          intro hm n h2 h3
          rw [cntE.cntL]
          split
          · have := ih y (hm y (by simp)) (b4 y (hm y (by simp))) (d + 1) (by omega) (by omega)
            exact ihl (fun z hz => hm z (by simp [hz])) _ (by omega) (by omega)
          · exact ⟨h2, h3⟩
      exact key x.f3 (fun _ h => h) _ (by omega) (by omega)
theorem count_ev : ∀ (x : S24), bdB x → ∀ d : Int, 0 ≤ d → d ≤ 31 → Ev (fun k => vestryref10_Count.f k x.f0 x.f1 x.f2 x.f3 d) (cntE x d) := by
  intro x
  induction x using S24.ind with
  | h x ih =>
    intro hb d h0 h1
    obtain ⟨b1, b2, b3, b4⟩ := (bdB_eq x).1 hb
    rw [cntE_eq]
    by_cases hd : d > 30
    · rw [if_pos hd]
      refine Ev.step (f := fun _ => some 500) (fun k => ?_) (Ev.now _)
      rw [vestryref10_Count.f, if_pos hd]
    · rw [if_neg hd]
      have key : ∀ (r i : Nat), x.f3.length - i = r → i ≤ x.f3.length → ∀ n : Int, 0 ≤ n → n ≤ 2199023255552 + 500 * (31 - d) →
          Ev (fun k => vestryref10_Count.l0 k d n (i : Int) x.f0 x.f1 x.f2 x.f3) (cntE.cntL (x.f3.drop i) d n) := by
        intro r
        induction r with
        | zero =>
          intro i hr hi n h2 h3
          rw [(List.drop_eq_nil_of_le (by omega) : x.f3.drop i = []), cntE.cntL]
          refine Ev.step (f := fun _ => some n) (fun k => ?_) (Ev.now _)
          rw [vestryref10_Count.l0, if_neg (by omega)]
        | succ r ihr =>
          intro i hr hi n h2 h3
          have hlt : i < x.f3.length := by omega
          rw [List.drop_eq_getElem_cons hlt, cntE.cntL]
          by_cases hn : n < 500
          · rw [if_pos hn]
            have hm : x.f3[i] ∈ x.f3 := List.getElem_mem hlt
            have hc := ih x.f3[i] hm (b4 _ hm) (d + 1) (by omega) (by omega)
            have hcb := cnt_bd x.f3[i] (b4 _ hm) (d + 1) (by omega) (by omega)
            have hnext := ihr (i + 1) (by omega) (by omega) (n + cntE x.f3[i] (d + 1)) (by omega) (by omega)
            refine Ev.step (f := fun k => (vestryref10_Count.f k x.f3[i].f0 x.f3[i].f1 x.f3[i].f2 x.f3[i].f3 (d + 1)).bind fun t => vestryref10_Count.l0 k d (wrap64 (n + t)) ((i + 1 : Nat) : Int) x.f0 x.f1 x.f2 x.f3) (fun k => ?_) (Ev.bind hc ?_)
            · rw [vestryref10_Count.l0, if_pos (by omega), if_pos hn, if_pos (by omega), rdT hlt, wrap_ok (x := d + 1) (by omega) (by omega), wrap_ok (x := (i : Int) + 1) (by omega) (by omega)]
              rfl
            · rw [wrap_ok (by omega) (by omega)]
              exact hnext
          · rw [if_neg hn]
            refine Ev.step (f := fun _ => some n) (fun k => ?_) (Ev.now _)
            rw [vestryref10_Count.l0, if_pos (by omega), if_neg hn]
      have := key x.f3.length 0 (by omega) (by omega) (1 + (x.f1.size : Int) / 200 + (x.f2.size : Int) / 200) (by omega) (by omega)
      rw [List.drop_zero] at this
      refine Ev.step (f := fun k => vestryref10_Count.l0 k d (1 + (x.f1.size : Int) / 200 + (x.f2.size : Int) / 200) ((0 : Nat) : Int) x.f0 x.f1 x.f2 x.f3) (fun k => ?_) this
      rw [vestryref10_Count.f, if_neg hd, wrap_ok (x := (x.f1.size : Int) / 200) (by omega) (by omega), wrap_ok (x := (x.f2.size : Int) / 200) (by omega) (by omega), wrap_ok (x := 1 + (x.f1.size : Int) / 200) (by omega) (by omega), wrap_ok (by omega) (by omega)]
      rfl
def wgt : S24 → Nat
  | ⟨_, b, c, l⟩ => 1 + b.size / 200 + c.size / 200 + wgtL l
where wgtL : List S24 → Nat
  | [] => 0
  | x :: xs => wgt x + wgtL xs
theorem wgt_eq (x : S24) : wgt x = 1 + x.f1.size / 200 + x.f2.size / 200 + wgt.wgtL x.f3 := by
  cases x
  rw [wgt]
theorem wgtL_mem {l : List S24} {x : S24} (h : x ∈ l) : wgt x ≤ wgt.wgtL l := by
  induction l with
  | nil => simp at h
  | cons y ys ih =>
    rw [wgt.wgtL]
    rcases List.mem_cons.1 h with rfl | h
    · omega
    · have := ih h; omega
theorem wgtL_len (l : List S24) : l.length ≤ wgt.wgtL l := by
  induction l with
  | nil => simp
  | cons y ys ih =>
    rw [wgt.wgtL, List.length_cons]
    have := wgt_eq y
    omega
theorem cnt_nn : ∀ (x : S24) (d : Int), 0 ≤ cntE x d := by
  intro x
  induction x using S24.ind with
  | h x ih =>
    intro d
    rw [cntE_eq]
    split
    · omega
    · have key : ∀ (l : List S24), (∀ y ∈ l, y ∈ x.f3) → ∀ n : Int, 0 ≤ n → 0 ≤ cntE.cntL l d n := by
        intro l
        induction l with
        | nil => intro _ n h2; rw [cntE.cntL]; exact h2
        | cons y ys ihl =>
          intro hm n h2
          rw [cntE.cntL]
          split
          · have := ih y (hm y (by simp)) (d + 1)
            exact ihl (fun z hz => hm z (by simp [hz])) _ (by omega)
          · exact h2
      exact key x.f3 (fun _ h => h) _ (by omega)
theorem cnt_wgt : ∀ (x : S24) (d : Int), cntE x d < 500 → cntE x d = wgt x := by
  intro x
  induction x using S24.ind with
  | h x ih =>
    intro d h
    rw [cntE_eq] at h ⊢
    split at h
    · omega
    · rename_i hd
      rw [if_neg hd]
      have key : ∀ (l : List S24), (∀ y ∈ l, y ∈ x.f3) → ∀ n : Int, 0 ≤ n → cntE.cntL l d n < 500 → cntE.cntL l d n = n + wgt.wgtL l := by
        intro l
        induction l with
        | nil => intro _ n _ h2; rw [cntE.cntL, wgt.wgtL]; omega
        | cons y ys ihl =>
          intro hm n h0 h2
          rw [cntE.cntL] at h2 ⊢
          have hnn := cnt_nn y (d + 1)
          split at h2
          · rename_i hn
            rw [if_pos hn, ihl (fun z hz => hm z (by simp [hz])) _ (by omega) h2, wgt.wgtL]
            have h3 := ihl (fun z hz => hm z (by simp [hz])) _ (by omega) h2
            by_cases h4 : cntE y (d + 1) < 500
            · rw [ih y (hm y (by simp)) (d + 1) h4]; omega
            · omega
          · omega
      rw [key x.f3 (fun _ h => h) _ (by omega) h, wgt_eq]
      omega
theorem few_ev (x : S24) (hb : bdB x) : Ev (fun k => vestryref10_Few.f k x.f0 x.f1 x.f2 x.f3) (decide (cntE x 0 ≤ 150)) := by
  unfold vestryref10_Few.f
  exact Ev.bind (count_ev x hb 0 (by omega) (by omega)) (Ev.now _)
theorem few_wgt {x : S24} (h : cntE x 0 ≤ 150) : wgt x ≤ 150 := by
  have := cnt_wgt x 0 (by omega)
  omega
def depthE : S24 → Nat
  | ⟨_, _, _, l⟩ => 1 + depthL l
where depthL : List S24 → Nat
  | [] => 0
  | x :: xs => max (depthE x) (depthL xs)
theorem depthE_eq (x : S24) : depthE x = 1 + depthE.depthL x.f3 := by
  cases x
  rw [depthE]
theorem depth_wgt : ∀ x, depthE x ≤ wgt x := by
  intro x
  induction x using S24.ind with
  | h x ih =>
    rw [depthE_eq, wgt_eq]
    have key : ∀ (l : List S24), (∀ y ∈ l, y ∈ x.f3) → depthE.depthL l ≤ wgt.wgtL l := by
      intro l
      induction l with
      | nil => intro _; rw [depthE.depthL]; omega
      | cons y ys ihl =>
        intro hm
        rw [depthE.depthL, wgt.wgtL]
        have h1 := ih y (hm y (by simp))
        have h2 := ihl (fun z hz => hm z (by simp [hz]))
        omega
    have := key x.f3 (fun _ h => h)
    omega
theorem leaves_wgt : ∀ x, (leavesB x).length ≤ wgt x := by
  intro x
  induction x using S24.ind with
  | h x ih =>
    rcases (Bool.eq_false_or_eq_true (leafk x.f0)).symm with hl | hl
    · rw [leavesB_node x hl, wgt_eq]
      have key : ∀ (l : List S24), (∀ y ∈ l, y ∈ x.f3) → (l.flatMap leavesB).length ≤ wgt.wgtL l := by
        intro l
        induction l with
        | nil => intro _; simp
        | cons y ys ihl =>
          intro hm
          rw [List.flatMap_cons, List.length_append, wgt.wgtL]
          have h1 := ih y (hm y (by simp))
          have h2 := ihl (fun z hz => hm z (by simp [hz]))
          omega
      have := key x.f3 (fun _ h => h)
      omega
    · rw [leavesB_leaf x hl, wgt_eq]
      simp
      omega
theorem mx_nat (a b : Nat) : mx (a : Int) (b : Int) = ((max a b : Nat) : Int) := by
  unfold mx
  split <;> omega
theorem refDepth_ev : ∀ (x : S24), wgt x ≤ 4611686018427387904 → Ev (fun k => vestryref10_Depth.f k x.f0 x.f1 x.f2 x.f3) (depthE x : Int) := by
  intro x
  induction x using S24.ind with
  | h x ih =>
    intro hw
    have hlen := wgtL_len x.f3
    have hwe := wgt_eq x
    have key : ∀ (r i : Nat), x.f3.length - i = r → i ≤ x.f3.length → ∀ n : Nat, 1 ≤ n → Ev (fun k => vestryref10_Depth.l0 k (n : Int) (i : Int) x.f0 x.f1 x.f2 x.f3) ((max n (1 + depthE.depthL (x.f3.drop i)) : Nat) : Int) := by
      intro r
      induction r with
      | zero =>
        intro i hr hi n hn
        rw [(List.drop_eq_nil_of_le (by omega) : x.f3.drop i = []), depthE.depthL, show max n (1 + 0) = n by omega]
        refine Ev.step (f := fun _ => some (n : Int)) (fun k => ?_) (Ev.now _)
        rw [vestryref10_Depth.l0, if_neg (by omega)]
      | succ r ihr =>
        intro i hr hi n hn
        have hlt : i < x.f3.length := by omega
        have hm : x.f3[i] ∈ x.f3 := List.getElem_mem hlt
        have hwm := wgtL_mem hm
        have hdw := depth_wgt x.f3[i]
        rw [List.drop_eq_getElem_cons hlt, depthE.depthL]
        have hnext := ihr (i + 1) (by omega) (by omega) (max n (1 + depthE x.f3[i])) (by omega)
        rw [show max (max n (1 + depthE x.f3[i])) (1 + depthE.depthL (x.f3.drop (i + 1))) = max n (1 + max (depthE x.f3[i]) (depthE.depthL (x.f3.drop (i + 1)))) by omega] at hnext
        refine Ev.step (f := fun k => (vestryref10_Depth.f k x.f3[i].f0 x.f3[i].f1 x.f3[i].f2 x.f3[i].f3).bind fun t => vestryref10_Depth.l0 k (mx (n : Int) (wrap64 (1 + t))) ((i + 1 : Nat) : Int) x.f0 x.f1 x.f2 x.f3) (fun k => ?_) (Ev.bind (ih _ hm (by omega)) ?_)
        · rw [vestryref10_Depth.l0, if_pos (by omega), if_pos (by omega), rdT hlt, wrap_ok (x := (i : Int) + 1) (by omega) (by omega)]
          rfl
        · rw [wrap_ok (by omega) (by omega), show (1 : Int) + (depthE x.f3[i] : Int) = ((1 + depthE x.f3[i] : Nat) : Int) by omega, mx_nat]
          exact hnext
    have := key x.f3.length 0 (by omega) (by omega) 1 (by omega)
    rw [List.drop_zero, show max 1 (1 + depthE.depthL x.f3) = depthE x by rw [depthE_eq]; omega] at this
    exact Ev.step (f := fun k => vestryref10_Depth.l0 k ((1 : Nat) : Int) ((0 : Nat) : Int) x.f0 x.f1 x.f2 x.f3) (fun k => by rw [vestryref10_Depth.f]; rfl) this
theorem exprDepth_ev : ∀ (x : S24), wgt x ≤ 4611686018427387904 → Ev (fun k => expr_Depth.f k x.f0 x.f1 x.f2 x.f3) (depthE x : Int) := by
  intro x
  induction x using S24.ind with
  | h x ih =>
    intro hw
    have hlen := wgtL_len x.f3
    have hwe := wgt_eq x
    have hdx := depth_wgt x
    have key : ∀ (r i : Nat), x.f3.length - i = r → i ≤ x.f3.length → ∀ n : Nat, n ≤ 4611686018427387904 → Ev (fun k => expr_Depth.l0 k (n : Int) x.f3 (x.f3.length : Int) (i : Int)) ((1 + max n (depthE.depthL (x.f3.drop i)) : Nat) : Int) := by
      intro r
      induction r with
      | zero =>
        intro i hr hi n hn
        rw [(List.drop_eq_nil_of_le (by omega) : x.f3.drop i = []), depthE.depthL, show 1 + max n 0 = n + 1 by omega]
        refine Ev.step (f := fun _ => some ((n + 1 : Nat) : Int)) (fun k => ?_) (Ev.now _)
        rw [expr_Depth.l0, if_neg (by omega), wrap_ok (by omega) (by omega)]
        rfl
      | succ r ihr =>
        intro i hr hi n hn
        have hlt : i < x.f3.length := by omega
        have hm : x.f3[i] ∈ x.f3 := List.getElem_mem hlt
        have hwm := wgtL_mem hm
        have hdw := depth_wgt x.f3[i]
        rw [List.drop_eq_getElem_cons hlt, depthE.depthL]
        have hnext := ihr (i + 1) (by omega) (by omega) (max n (depthE x.f3[i])) (by omega)
        rw [show max (max n (depthE x.f3[i])) (depthE.depthL (x.f3.drop (i + 1))) = max n (max (depthE x.f3[i]) (depthE.depthL (x.f3.drop (i + 1)))) by omega] at hnext
        refine Ev.step (f := fun k => (expr_Depth.f k x.f3[i].f0 x.f3[i].f1 x.f3[i].f2 x.f3[i].f3).bind fun t => expr_Depth.l0 k (mx (n : Int) t) x.f3 (x.f3.length : Int) ((i + 1 : Nat) : Int)) (fun k => ?_) (Ev.bind (ih _ hm (by omega)) ?_)
        · rw [expr_Depth.l0, if_pos (by omega), if_pos (by omega), if_pos (by omega), rdT hlt, wrap_ok (x := (i : Int) + 1) (by omega) (by omega)]
          rfl
        · rw [mx_nat]
          exact hnext
    have := key x.f3.length 0 (by omega) (by omega) 0 (by omega)
    rw [List.drop_zero, show 1 + max 0 (depthE.depthL x.f3) = depthE x by rw [depthE_eq]; omega] at this
    exact Ev.step (f := fun k => expr_Depth.l0 k ((0 : Nat) : Int) x.f3 (x.f3.length : Int) ((0 : Nat) : Int)) (fun k => by rw [expr_Depth.f]; rfl) this
theorem refLeaves_ev : ∀ (x : S24), wgt x ≤ 1000000 → Ev (fun k => vestryref10_Leaves.f k x.f0 x.f1 x.f2 x.f3) (leavesB x) := by
  intro x
  induction x using S24.ind with
  | h x ih =>
    intro hw
    have hlen := wgtL_len x.f3
    have hwe := wgt_eq x
    have hlf : ∀ l, vestryref10_Leaf.f x.f0 x.f1 x.f2 l = some (leafk x.f0) := by
      intro l
      unfold vestryref10_Leaf.f leafk
      split
      · rw [if_neg (by omega), if_neg (by omega)]
        have : (x.f0 != 5) = true := by simp; omega
        rw [this]
      · split
        · have : decide (x.f0 > 5) = false := by simp; omega
          rw [this]
        · split
          · have : decide (x.f0 > 5) = false := by simp; omega
            rw [this]
          · congr 1
            rw [Bool.eq_iff_iff]
            simp
            omega
    rcases (Bool.eq_false_or_eq_true (leafk x.f0)).symm with hl | hl
    · rw [leavesB_node x hl]
      have key : ∀ (r i : Nat), x.f3.length - i = r → i ≤ x.f3.length → ∀ acc : List S24, acc.length + wgt.wgtL (x.f3.drop i) ≤ 1000000 → Ev (fun k => vestryref10_Leaves.l0 k acc (i : Int) x.f0 x.f1 x.f2 x.f3) (acc ++ (x.f3.drop i).flatMap leavesB) := by
        intro r
        induction r with
        | zero =>
          intro i hr hi acc _
          rw [(List.drop_eq_nil_of_le (by omega) : x.f3.drop i = [])]
          refine Ev.step (f := fun _ => some acc) (fun k => ?_) (by simpa using Ev.now acc)
          rw [vestryref10_Leaves.l0, if_neg (by omega)]
        | succ r ihr =>
          intro i hr hi acc hacc
          have hlt : i < x.f3.length := by omega
          have hm : x.f3[i] ∈ x.f3 := List.getElem_mem hlt
          have hwm := wgtL_mem hm
          have hlw := leaves_wgt x.f3[i]
          rw [List.drop_eq_getElem_cons hlt, wgt.wgtL] at hacc
          rw [List.drop_eq_getElem_cons hlt, List.flatMap_cons, ← List.append_assoc]
          have hnext := ihr (i + 1) (by omega) (by omega) (acc ++ leavesB x.f3[i]) (by rw [List.length_append]; omega)
          refine Ev.step (f := fun k => (vestryref10_Leaves.f k x.f3[i].f0 x.f3[i].f1 x.f3[i].f2 x.f3[i].f3).bind fun t => if acc.length + t.length < 2199023255552 then vestryref10_Leaves.l0 k (acc ++ t) ((i + 1 : Nat) : Int) x.f0 x.f1 x.f2 x.f3 else none) (fun k => ?_) (Ev.bind (ih _ hm (by omega)) ?_)
          · rw [vestryref10_Leaves.l0, if_pos (by omega), if_pos (by omega), rdT hlt, wrap_ok (x := (i : Int) + 1) (by omega) (by omega)]
            rfl
          · simp only [show acc.length + (leavesB x.f3[i]).length < 2199023255552 from by omega, if_true]
            exact hnext
      have := key x.f3.length 0 (by omega) (by omega) [] (by rw [List.drop_zero]; simp; omega)
      rw [List.drop_zero, List.nil_append] at this
      refine Ev.step (f := fun k => vestryref10_Leaves.l0 k [] ((0 : Nat) : Int) x.f0 x.f1 x.f2 x.f3) (fun k => ?_) this
      rw [vestryref10_Leaves.f, hlf, hl]
      rfl
    · rw [leavesB_leaf x hl]
      refine Ev.step (f := fun _ => some [x]) (fun k => ?_) (Ev.now _)
      rw [vestryref10_Leaves.f, hlf, hl]
      simp [S24.eta]
end Go.Proofs.YtigghbfcflnoeaaDoor.Y
end
section
namespace Go.Proofs.YtigghbfcflnoeaaDoor.Y
open Go.RowKit Go.Proofs.YtigghbfcflnoeaaDoorW.PrintWords Go.Proofs.YtigghbfcflnoeaaDoorW.PrintLast Go.Proofs.YtigghbfcflnoeaaDoorW.PrintMore
attribute [local go_sem] max2_int min2_int max_two min_two max_three min_three max_four min_four
set_option linter.unusedVariables false
set_option linter.unusedSimpArgs false
def expr_few.f (a0_0 : Int) (a0_1 : ByteArray) (a0_2 : ByteArray) (l0_3 : List (S24)) : Option (Bool) :=
  if (leavesB ⟨a0_0, a0_1, a0_2, l0_3⟩).length ≤ 4611686018427387904 then some (decide ((leavesB ⟨a0_0, a0_1, a0_2, l0_3⟩).length ≤ 32)) else none
attribute [local go_sem] Oper.semAt_some
set_option maxHeartbeats 8000000 in
set_option maxRecDepth 100000 in
theorem few_at (x : S24) (A : Option Addr) (c : Nat) (w : World) (hC : Kd.C k24 w A x.f3.length x.f3) (hc : x.f3.length ≤ c) (hl : (leavesB x).length ≤ 4611686018427387904) :
    Calls Tryd.prog 48 #[exV x A c] w fun e w' => e = .returned (.bool (decide ((leavesB x).length ≤ 32))) ∧ Below w.heap.size w w' := by
  obtain ⟨r, hr⟩ : ∃ r, decide ((leavesB x).length ≤ 32) = r := ⟨_, rfl⟩
  rw [hr]
  have HR := Aside0.mk hr
  have HC := Aside0.mk hC
  have Hc := Aside0.mk hc
  have HL := Aside0.mk hl
  clear hr hC hc hl
  refine (callsIn_wide (n := 9)).1 ?_
  refine callsIn_of_wp_marks Tryd.func48 rfl trivial ?_ rfl
  simp only [Tryd.ntmps48, List.size_toArray, List.length_cons, List.length_nil, Nat.reduceAdd, Nat.reduceSub, Array.replicate_succ, Array.replicate_zero, List.push_toArray, List.append_toArray, List.nil_append, List.cons_append]
  gi_wp2_with fail
  refine ⟨trivial, (callsIn_wide.2 (leaves_calls x A c _)).mono ?_⟩
  rintro e w1 ⟨rfl, rfl⟩
  gi_wp2_with fail
  have hW0 : Below w.heap.size w (((w.alloc (exBox x A c)).alloc (.cells #[.int .i64 0] 3)).alloc (exBox x A c)) := (((Below.refl _ w).alloc (Nat.le_refl _) _).alloc (by simp) _).alloc (by simp; omega) _
  have bn : (((w.alloc (exBox x A c)).alloc (.cells #[.int .i64 0] 3)).alloc (exBox x A c)).heap[w.heap.size + 1]? = some (.cells #[.int .i64 0] 3 (0, 0)) := by
    refine blk_alloc ?_ _
    have := blk_new (w.alloc (exBox x A c)) (.cells #[.int .i64 0] 3)
    rwa [World.size_alloc] at this
  have be : (((w.alloc (exBox x A c)).alloc (.cells #[.int .i64 0] 3)).alloc (exBox x A c)).heap[w.heap.size + 2]? = some (exBox x A c) := by
    have := blk_new ((w.alloc (exBox x A c)).alloc (.cells #[.int .i64 0] 3)) (exBox x A c)
    rwa [World.size_alloc, World.size_alloc] at this
  have hsz : (((w.alloc (exBox x A c)).alloc (.cells #[.int .i64 0] 3)).alloc (exBox x A c)).heap.size = w.heap.size + 3 := by simp
  refine wpIn_rangeFunc_ownG rfl (by omega) (gf := 55) (lb := #[.pointer (some ⟨w.heap.size + 2, 0, none⟩)]) rfl trivial (enters_of Tryd.func55 (by kernel_rfl) rfl)
    (leaves_stops _ w _ x A c (w.heap.size + 2) HC.out Hc.out hW0 be) (fun h k => h.trans k) (fun W l o o' hl ho hc _ => KpL.putObj hW0.size W l o o' hl ho hc) (Below.refl _ _) (fun _ => rfl)
    (fun pre W => W.heap[w.heap.size + 1]? = some (.cells #[.int .i64 (pre.length : Int)] 3 (0, 0)) ∧ Below w.heap.size w W)
    (fun _ _ _ => False) ?hI (fun _ _ _ _ _ h _ _ => h) ⟨bn, hW0⟩
    (fun p => { tmps := #[exV x A c, .pointer (some ⟨w.heap.size, 0, none⟩), .bool false, .pointer (some ⟨w.heap.size + 1, 0, none⟩), exV x A c, .func (.func 55) #[] #[.pointer (some ⟨w.heap.size + 2, 0, none⟩)], p.val, undef, undef, undef, undef], defers := [] })
    ?assign ?body ?done ?stop
  case hI =>
    intro s W W' row h hg hr
    refine ⟨?_, pw_below_grown h.2 row h.2.size hg (fun k e => ?_)⟩
    · refine (hg.block _ ?_ ?_).trans h.1
      · exact (Array.getElem?_eq_some_iff.1 h.1).1
      · intro e
        have := (hr _ e.symm).1
        rw [hsz] at this
        omega
    · have := (hr _ e).1
      rw [hsz] at this
      omega
  case assign =>
    intro l p W K hK
    gi_wp2
    simpa using hK
  case body =>
    rintro l pre p W ⟨hn, hb⟩ hlt
    have hlt' : (pre.length : Int) < 4611686018427387904 := by have := HL.out; omega
    have z : W.cell? ⟨w.heap.size + 1, 0, none⟩ = some (.int .i64 (pre.length : Int)) := (blk_cell hn 0).trans rfl
    have zf := blk_frozen hn 0
    have HN := Aside0.mk hn
    have HB := Aside0.mk hb
    clear hn hb hlt
    gi_wp2
    refine ⟨(KeepsOthers.setCell _ _ _).from _, KpL.setCell _ _ _ (by show w.heap.size ≤ w.heap.size + 1; omega) (by rw [hsz]; show w.heap.size + 1 < w.heap.size + 3; omega), ?_, HB.out.setCell (p := ⟨w.heap.size + 1, 0, none⟩) (by show w.heap.size ≤ w.heap.size + 1; omega) _⟩
    have := blk_put HN.out 0 (.int .i64 ((pre.length : Int) + 1)) rfl
    simpa using this
  case done =>
    rintro D ys W hD hys ⟨hn, hb⟩ hK
    have he : ys.length = (leavesB x).length := by rw [← hys]; simp [exprs]
    have z : W.cell? ⟨w.heap.size + 1, 0, none⟩ = some (.int .i64 (ys.length : Int)) := (blk_cell hn 0).trans rfl
    have hd : decide ((ys.length : Int) ≤ 32) = r := by rw [← HR.out, he, Bool.eq_iff_iff]; simp; omega
    have HD := Aside0.mk hd
    have HB := Aside0.mk hb
    have HKK := Aside0.mk hK
    have hD2 : w.heap.size ≤ D := by rw [hsz] at hD; omega
    clear hd hb hn hys he hK
    generalize (ys.length : Int) = q at z HD
    gi_wp2
    have hk2 : Below w.heap.size W (W.putObj D (.deferred none)) := (KpL.putObj (Nat.le_refl _) W D (.deferred (some [])) (.deferred none) (by omega) HKK.out rfl).low
    refine ⟨by simp, .inl ⟨_, _, rfl, run_takeDeferred HKK.out, _, results_tmp rfl _ _ _, ?_, HB.out.trans hk2⟩⟩
    show Ending.returned (.bool (decide (q ≤ 32))) = _
    rw [HD.out]
  case stop =>
    rintro D c pre W _ _ h _
    exact h.elim
theorem expr_few.calls (a0_0 : Int) (a0_1 : ByteArray) (a0_2 : ByteArray) (A0_3 : Option Addr) (c0_3 : Nat) (l0_3 : List (S24)) (r : Bool) (w : World) (hr0_3 : Kd.C k24 w A0_3 l0_3.length l0_3) (hc0_3 : l0_3.length ≤ c0_3) (h : expr_few.f a0_0 a0_1 a0_2 l0_3 = some r) :
    Calls Tryd.prog 48 #[.agg #[.int .i64 a0_0, .string a0_1, .string a0_2, .slice A0_3 l0_3.length c0_3]] w fun e w' => e = .returned (.bool r) ∧ Below w.heap.size w w' := by
  unfold expr_few.f at h
  split at h
  · obtain rfl := Option.some.inj h
    exact few_at ⟨a0_0, a0_1, a0_2, l0_3⟩ A0_3 c0_3 w hr0_3 hc0_3 (by assumption)
  · simp at h
end Go.Proofs.YtigghbfcflnoeaaDoor.Y
end
section
namespace Go.Proofs.YtigghbfcflnoeaaDoor.Y
open Go.RowKit Go.Proofs.YtigghbfcflnoeaaDoorW.PrintWords Go.Proofs.YtigghbfcflnoeaaDoorW.PrintLast Go.Proofs.YtigghbfcflnoeaaDoorW.PrintMore
attribute [local go_sem] max2_int min2_int max_two min_two max_three min_three max_four min_four
set_option linter.unusedVariables false
set_option linter.unusedSimpArgs false
def expr_Right.f (k : Nat) (a0_0 : Int) (a0_1 : ByteArray) (a0_2 : ByteArray) (l0_3 : List (S24)) : Option (Bool) := (expr_Depth.f k a0_0 a0_1 a0_2 l0_3).bind fun t102 => (if t102 ≤ 16 then ((expr_form.f a0_0 a0_1 a0_2 l0_3).bind fun t103 => (if t103 = true then ((expr_few.f a0_0 a0_1 a0_2 l0_3).bind fun t104 => (some t104)) else (some false))) else (some false))
theorem expr_Right.mono : ∀ a0 a1 a2 a3 k, LeO (expr_Right.f k a0 a1 a2 a3) (expr_Right.f (k + 1) a0 a1 a2 a3) := by
  intro a0 a1 a2 a3 k
  unfold expr_Right.f
  repeat' first
      | (with_reducible exact expr_Depth.mono _ _ _ _ _)
      | (with_reducible exact LeO.refl _)
      | (with_reducible exact LeO.none _)
      | (with_reducible refine LeO.ite ?_ ?_)
      | (with_reducible refine LeO.bind ?_ (fun _ => ?_))
      | exact expr_Depth.mono _ _ _ _ _
      | exact LeO.none _
      | refine LeO.ite ?_ ?_
      | refine LeO.bind ?_ (fun _ => ?_)
set_option maxHeartbeats 8000000 in
set_option maxRecDepth 100000 in
theorem expr_Right.calls (k : Nat) (a0_0 : Int) (a0_1 : ByteArray) (a0_2 : ByteArray) (A0_3 : Option Addr) (c0_3 : Nat) (l0_3 : List (S24)) (r : Bool) (w : World) (hL : Laid w) (hr0_3 : Kd.C k24 w A0_3 l0_3.length l0_3) (hc0_3 : l0_3.length ≤ c0_3) (h : expr_Right.f k a0_0 a0_1 a0_2 l0_3 = some r) :
    Calls Tryd.prog 17 #[.agg #[.int .i64 a0_0, .string a0_1, .string a0_2, .slice A0_3 l0_3.length c0_3]] w fun e w' => e = .returned (.bool r) ∧ Below w.heap.size w w' := by
  have HL := Aside0.mk hL
  clear hL
  have hu24 := Tryd.underlying24
  have HR0_3 := Aside0.mk hr0_3
  have HC0_3 := Aside0.mk hc0_3
  clear hr0_3 hc0_3
  have HB := Aside0.mk (Below.refl w.heap.size w)
  have H : ((expr_Depth.f k a0_0 a0_1 a0_2 l0_3).bind fun t102 => (if t102 ≤ 16 then ((expr_form.f a0_0 a0_1 a0_2 l0_3).bind fun t103 => (if t103 = true then ((expr_few.f a0_0 a0_1 a0_2 l0_3).bind fun t104 => (some t104)) else (some false))) else (some false))) = some r := h
  clear h
  replace H := Option.bind_eq_some_iff.mp H
  obtain ⟨t102, A20, H⟩ := H
  replace H : (if t102 ≤ 16 then ((expr_form.f a0_0 a0_1 a0_2 l0_3).bind fun t103 => (if t103 = true then ((expr_few.f a0_0 a0_1 a0_2 l0_3).bind fun t104 => (some t104)) else (some false))) else (some false)) = some r := H
  have A2 := Aside0.mk A20
  clear A20
  by_cases c3 : t102 ≤ 16
  · rw [if_pos c3] at H
    have c3b0 : decide (t102 ≤ 16) = true := decide_eq_true c3
    clear c3
    replace H := Option.bind_eq_some_iff.mp H
    obtain ⟨t103, A40, H⟩ := H
    replace H : (if t103 = true then ((expr_few.f a0_0 a0_1 a0_2 l0_3).bind fun t104 => (some t104)) else (some false)) = some r := H
    have A4 := Aside0.mk A40
    clear A40
    by_cases c5 : t103 = true
    · subst c5
      have H1 : ((expr_few.f a0_0 a0_1 a0_2 l0_3).bind fun t104 => (some t104)) = some r := by rw [if_pos rfl] at H; exact H
      clear H
      have H := H1
      clear H1
      replace H := Option.bind_eq_some_iff.mp H
      obtain ⟨t104, A60, H⟩ := H
      replace H : (some t104) = some r := H
      have A6 := Aside0.mk A60
      clear A60
      obtain rfl := Option.some.inj H
      go_enter Tryd.func17, Tryd.ntmps17
      go_wp2_with (first | ((with_reducible refine gate_dst (N := 1) rfl ?_); refine box_event ?hg (N := 1) ?hd (cs := #[.int .i64 a0_0, .string a0_1, .string a0_2, .slice A0_3 l0_3.length c0_3]) (t := 24) ?hr ?_; (case hd => rfl); (case hg => rfl); (case hr => first | (go_simp; done) | (go_simp; rfl)); intro gb101 hg w7 hbox hb; have n0_ := Aside0.mk (below_step (by repeat (first | (with_reducible first | exact HB.out | apply below_alloc | apply pw_below_drewN | apply below_drew1) | exact HB.out)) hb); have n1_ := Aside0.mk (hbox); have n2_ := Aside0.mk ((by rw [hg]; exact (below_size (by repeat (first | (with_reducible first | exact HB.out | apply below_alloc | apply pw_below_drewN | apply below_drew1) | exact HB.out))) : w.heap.size ≤ gb101)); have n3_ := Aside0.mk ((by rw [hg]; exact (below_size (by repeat (first | (with_reducible first | exact HB.out | apply below_alloc | apply pw_below_drewN | apply below_drew1) | exact HB.out))) : w.heap.size ≤ gb101)); clear HB; have HB := n0_; have BK101 := n1_; have GW101 := n2_; have GE101 := n3_; clear n0_ n1_ n2_ n3_; clear hb hbox hg; have hcz8_0 : w7.cell? ⟨gb101, 0, none⟩ = some (.int .i64 a0_0) := (blk_cell BK101.out 0).trans rfl; have hcz8_1 : w7.cell? ⟨gb101, 1, none⟩ = some (.string a0_1) := (blk_cell BK101.out 1).trans rfl; have hcz8_2 : w7.cell? ⟨gb101, 2, none⟩ = some (.string a0_2) := (blk_cell BK101.out 2).trans rfl; have hcz8_3 : w7.cell? ⟨gb101, 3, none⟩ = some (.slice A0_3 l0_3.length c0_3) := (blk_cell BK101.out 3).trans rfl; have hfz8_0 := blk_frozen BK101.out 0; have hfz8_1 := blk_frozen BK101.out 1; have hfz8_2 := blk_frozen BK101.out 2; have hfz8_3 := blk_frozen BK101.out 3) | ((with_reducible refine gate_callee (f := 18) rfl ?_); refine goesL_ (some 4) rfl rfl Tryd.func18 (by kernel_rfl) rfl #[.agg #[.int .i64 a0_0, .string a0_1, .string a0_2, .slice A0_3 l0_3.length c0_3]] rfl (by (try simp only [List.map_toArray, List.map_cons, List.map_nil]); first | done | rfl | (simp only [List.length_drop, List.length_take]; rfl)) ?_; (with_reducible refine (expr_Depth.calls k a0_0 a0_1 a0_2 _ _ l0_3 t102 _ ?side1 ?side2 A2.out).mono ?_); (case side1 => repeat (first | exact (Kd.C_below HR0_3.out HB.out) | (with_reducible refine Kd.C_alloc ?_ _) | (with_reducible refine Kd.C_drewN ?_ _) | (with_reducible refine Kd.C_drew ?_))); (case side2 => exact HC0_3.out); rintro e w9 ⟨rfl, hb⟩; refine ⟨_, rfl, ?_⟩; have n0_ := Aside0.mk (blk_below (g := gb101) (o := .cells #[.int .i64 a0_0, .string a0_1, .string a0_2, .slice A0_3 l0_3.length c0_3] 24 (0, 0)) (by (with_reducible repeat (first | refine blk_drewN ?_ _ | refine blk_drew ?_ | refine blk_alloc ?_ _)); exact BK101.out) hb); have n1_ := Aside0.mk (below_step (by repeat (first | (with_reducible first | exact HB.out | apply below_alloc | apply pw_below_drewN | apply below_drew1 | refine below_set ?_ GE101.out) | exact HB.out)) hb); clear BK101; clear HB; have BK101 := n0_; have HB := n1_; clear n0_ n1_; (try clear hb); (try clear hb2); (try clear hk); (try clear hi); have hcz10_0 : w9.cell? ⟨gb101, 0, none⟩ = some (.int .i64 a0_0) := (blk_cell BK101.out 0).trans rfl; have hcz10_1 : w9.cell? ⟨gb101, 1, none⟩ = some (.string a0_1) := (blk_cell BK101.out 1).trans rfl; have hcz10_2 : w9.cell? ⟨gb101, 2, none⟩ = some (.string a0_2) := (blk_cell BK101.out 2).trans rfl; have hcz10_3 : w9.cell? ⟨gb101, 3, none⟩ = some (.slice A0_3 l0_3.length c0_3) := (blk_cell BK101.out 3).trans rfl; have hfz10_0 := blk_frozen BK101.out 0; have hfz10_1 := blk_frozen BK101.out 1; have hfz10_2 := blk_frozen BK101.out 2; have hfz10_3 := blk_frozen BK101.out 3) | (go_at_call 47; (with_reducible refine (expr_form.calls a0_0 a0_1 a0_2 _ _ l0_3 true _ ?sideL ?side1 ?side2 A4.out).mono ?_); (case sideL => exact HL.out.below (by repeat (first | (with_reducible first | exact HB.out | exact Below.refl _ _ | apply below_alloc | apply pw_below_drewN | apply below_drew1 | refine below_set ?_ GE101.out) | exact HB.out))); (case side1 => repeat (first | exact (Kd.C_below HR0_3.out HB.out) | (with_reducible refine Kd.C_alloc ?_ _) | (with_reducible refine Kd.C_drewN ?_ _) | (with_reducible refine Kd.C_drew ?_))); (case side2 => exact HC0_3.out); rintro e w11 ⟨rfl, hb⟩; have n0_ := Aside0.mk (blk_below (g := gb101) (o := .cells #[.int .i64 a0_0, .string a0_1, .string a0_2, .slice A0_3 l0_3.length c0_3] 24 (0, 0)) (by (with_reducible repeat (first | refine blk_drewN ?_ _ | refine blk_drew ?_ | refine blk_alloc ?_ _)); exact BK101.out) hb); have n1_ := Aside0.mk (below_step (by repeat (first | (with_reducible first | exact HB.out | apply below_alloc | apply pw_below_drewN | apply below_drew1 | refine below_set ?_ GE101.out) | exact HB.out)) hb); clear BK101; clear HB; have BK101 := n0_; have HB := n1_; clear n0_ n1_; (try clear hb); (try clear hb2); (try clear hk); (try clear hi); have hcz12_0 : w11.cell? ⟨gb101, 0, none⟩ = some (.int .i64 a0_0) := (blk_cell BK101.out 0).trans rfl; have hcz12_1 : w11.cell? ⟨gb101, 1, none⟩ = some (.string a0_1) := (blk_cell BK101.out 1).trans rfl; have hcz12_2 : w11.cell? ⟨gb101, 2, none⟩ = some (.string a0_2) := (blk_cell BK101.out 2).trans rfl; have hcz12_3 : w11.cell? ⟨gb101, 3, none⟩ = some (.slice A0_3 l0_3.length c0_3) := (blk_cell BK101.out 3).trans rfl; have hfz12_0 := blk_frozen BK101.out 0; have hfz12_1 := blk_frozen BK101.out 1; have hfz12_2 := blk_frozen BK101.out 2; have hfz12_3 := blk_frozen BK101.out 3) | (go_at_call 48; (with_reducible refine (expr_few.calls a0_0 a0_1 a0_2 _ _ l0_3 t104 _ ?side1 ?side2 A6.out).mono ?_); (case side1 => repeat (first | exact (Kd.C_below HR0_3.out HB.out) | (with_reducible refine Kd.C_alloc ?_ _) | (with_reducible refine Kd.C_drewN ?_ _) | (with_reducible refine Kd.C_drew ?_))); (case side2 => exact HC0_3.out); rintro e w13 ⟨rfl, hb⟩; have n0_ := Aside0.mk (blk_below (g := gb101) (o := .cells #[.int .i64 a0_0, .string a0_1, .string a0_2, .slice A0_3 l0_3.length c0_3] 24 (0, 0)) (by (with_reducible repeat (first | refine blk_drewN ?_ _ | refine blk_drew ?_ | refine blk_alloc ?_ _)); exact BK101.out) hb); have n1_ := Aside0.mk (below_step (by repeat (first | (with_reducible first | exact HB.out | apply below_alloc | apply pw_below_drewN | apply below_drew1 | refine below_set ?_ GE101.out) | exact HB.out)) hb); clear BK101; clear HB; have BK101 := n0_; have HB := n1_; clear n0_ n1_; (try clear hb); (try clear hb2); (try clear hk); (try clear hi)))
      go_ret
      exact ⟨by first | rfl | (simp [errW_none, errW_some] <;> rfl) | (simp [*, errW_none, errW_some] <;> rfl), by repeat (first | (with_reducible first | exact HB.out | apply below_alloc | apply pw_below_drewN | apply below_drew1 | refine below_set ?_ GE101.out) | exact HB.out)⟩
    · replace c5 := Bool.eq_false_iff.mpr c5
      subst c5
      have H1 : (some false) = some r := by rw [if_neg (show ¬ (false = true) by decide)] at H; exact H
      clear H
      have H := H1
      clear H1
      obtain rfl := Option.some.inj H
      go_enter Tryd.func17, Tryd.ntmps17
      go_wp2_with (first | ((with_reducible refine gate_dst (N := 1) rfl ?_); refine box_event ?hg (N := 1) ?hd (cs := #[.int .i64 a0_0, .string a0_1, .string a0_2, .slice A0_3 l0_3.length c0_3]) (t := 24) ?hr ?_; (case hd => rfl); (case hg => rfl); (case hr => first | (go_simp; done) | (go_simp; rfl)); intro gb101 hg w14 hbox hb; have n0_ := Aside0.mk (below_step (by repeat (first | (with_reducible first | exact HB.out | apply below_alloc | apply pw_below_drewN | apply below_drew1) | exact HB.out)) hb); have n1_ := Aside0.mk (hbox); have n2_ := Aside0.mk ((by rw [hg]; exact (below_size (by repeat (first | (with_reducible first | exact HB.out | apply below_alloc | apply pw_below_drewN | apply below_drew1) | exact HB.out))) : w.heap.size ≤ gb101)); have n3_ := Aside0.mk ((by rw [hg]; exact (below_size (by repeat (first | (with_reducible first | exact HB.out | apply below_alloc | apply pw_below_drewN | apply below_drew1) | exact HB.out))) : w.heap.size ≤ gb101)); clear HB; have HB := n0_; have BK101 := n1_; have GW101 := n2_; have GE101 := n3_; clear n0_ n1_ n2_ n3_; clear hb hbox hg; have hcz15_0 : w14.cell? ⟨gb101, 0, none⟩ = some (.int .i64 a0_0) := (blk_cell BK101.out 0).trans rfl; have hcz15_1 : w14.cell? ⟨gb101, 1, none⟩ = some (.string a0_1) := (blk_cell BK101.out 1).trans rfl; have hcz15_2 : w14.cell? ⟨gb101, 2, none⟩ = some (.string a0_2) := (blk_cell BK101.out 2).trans rfl; have hcz15_3 : w14.cell? ⟨gb101, 3, none⟩ = some (.slice A0_3 l0_3.length c0_3) := (blk_cell BK101.out 3).trans rfl; have hfz15_0 := blk_frozen BK101.out 0; have hfz15_1 := blk_frozen BK101.out 1; have hfz15_2 := blk_frozen BK101.out 2; have hfz15_3 := blk_frozen BK101.out 3) | ((with_reducible refine gate_callee (f := 18) rfl ?_); refine goesL_ (some 4) rfl rfl Tryd.func18 (by kernel_rfl) rfl #[.agg #[.int .i64 a0_0, .string a0_1, .string a0_2, .slice A0_3 l0_3.length c0_3]] rfl (by (try simp only [List.map_toArray, List.map_cons, List.map_nil]); first | done | rfl | (simp only [List.length_drop, List.length_take]; rfl)) ?_; (with_reducible refine (expr_Depth.calls k a0_0 a0_1 a0_2 _ _ l0_3 t102 _ ?side1 ?side2 A2.out).mono ?_); (case side1 => repeat (first | exact (Kd.C_below HR0_3.out HB.out) | (with_reducible refine Kd.C_alloc ?_ _) | (with_reducible refine Kd.C_drewN ?_ _) | (with_reducible refine Kd.C_drew ?_))); (case side2 => exact HC0_3.out); rintro e w16 ⟨rfl, hb⟩; refine ⟨_, rfl, ?_⟩; have n0_ := Aside0.mk (blk_below (g := gb101) (o := .cells #[.int .i64 a0_0, .string a0_1, .string a0_2, .slice A0_3 l0_3.length c0_3] 24 (0, 0)) (by (with_reducible repeat (first | refine blk_drewN ?_ _ | refine blk_drew ?_ | refine blk_alloc ?_ _)); exact BK101.out) hb); have n1_ := Aside0.mk (below_step (by repeat (first | (with_reducible first | exact HB.out | apply below_alloc | apply pw_below_drewN | apply below_drew1 | refine below_set ?_ GE101.out) | exact HB.out)) hb); clear BK101; clear HB; have BK101 := n0_; have HB := n1_; clear n0_ n1_; (try clear hb); (try clear hb2); (try clear hk); (try clear hi); have hcz17_0 : w16.cell? ⟨gb101, 0, none⟩ = some (.int .i64 a0_0) := (blk_cell BK101.out 0).trans rfl; have hcz17_1 : w16.cell? ⟨gb101, 1, none⟩ = some (.string a0_1) := (blk_cell BK101.out 1).trans rfl; have hcz17_2 : w16.cell? ⟨gb101, 2, none⟩ = some (.string a0_2) := (blk_cell BK101.out 2).trans rfl; have hcz17_3 : w16.cell? ⟨gb101, 3, none⟩ = some (.slice A0_3 l0_3.length c0_3) := (blk_cell BK101.out 3).trans rfl; have hfz17_0 := blk_frozen BK101.out 0; have hfz17_1 := blk_frozen BK101.out 1; have hfz17_2 := blk_frozen BK101.out 2; have hfz17_3 := blk_frozen BK101.out 3) | (go_at_call 47; (with_reducible refine (expr_form.calls a0_0 a0_1 a0_2 _ _ l0_3 false _ ?sideL ?side1 ?side2 A4.out).mono ?_); (case sideL => exact HL.out.below (by repeat (first | (with_reducible first | exact HB.out | exact Below.refl _ _ | apply below_alloc | apply pw_below_drewN | apply below_drew1 | refine below_set ?_ GE101.out) | exact HB.out))); (case side1 => repeat (first | exact (Kd.C_below HR0_3.out HB.out) | (with_reducible refine Kd.C_alloc ?_ _) | (with_reducible refine Kd.C_drewN ?_ _) | (with_reducible refine Kd.C_drew ?_))); (case side2 => exact HC0_3.out); rintro e w18 ⟨rfl, hb⟩; have n0_ := Aside0.mk (blk_below (g := gb101) (o := .cells #[.int .i64 a0_0, .string a0_1, .string a0_2, .slice A0_3 l0_3.length c0_3] 24 (0, 0)) (by (with_reducible repeat (first | refine blk_drewN ?_ _ | refine blk_drew ?_ | refine blk_alloc ?_ _)); exact BK101.out) hb); have n1_ := Aside0.mk (below_step (by repeat (first | (with_reducible first | exact HB.out | apply below_alloc | apply pw_below_drewN | apply below_drew1 | refine below_set ?_ GE101.out) | exact HB.out)) hb); clear BK101; clear HB; have BK101 := n0_; have HB := n1_; clear n0_ n1_; (try clear hb); (try clear hb2); (try clear hk); (try clear hi)))
      go_ret
      exact ⟨by first | rfl | (simp [errW_none, errW_some] <;> rfl) | (simp [*, errW_none, errW_some] <;> rfl), by repeat (first | (with_reducible first | exact HB.out | apply below_alloc | apply pw_below_drewN | apply below_drew1 | refine below_set ?_ GE101.out) | exact HB.out)⟩
  · rw [if_neg c3] at H
    have c3b0 : decide (t102 ≤ 16) = false := decide_eq_false c3
    clear c3
    obtain rfl := Option.some.inj H
    go_enter Tryd.func17, Tryd.ntmps17
    go_wp2_with (first | ((with_reducible refine gate_dst (N := 1) rfl ?_); refine box_event ?hg (N := 1) ?hd (cs := #[.int .i64 a0_0, .string a0_1, .string a0_2, .slice A0_3 l0_3.length c0_3]) (t := 24) ?hr ?_; (case hd => rfl); (case hg => rfl); (case hr => first | (go_simp; done) | (go_simp; rfl)); intro gb101 hg w19 hbox hb; have n0_ := Aside0.mk (below_step (by repeat (first | (with_reducible first | exact HB.out | apply below_alloc | apply pw_below_drewN | apply below_drew1) | exact HB.out)) hb); have n1_ := Aside0.mk (hbox); have n2_ := Aside0.mk ((by rw [hg]; exact (below_size (by repeat (first | (with_reducible first | exact HB.out | apply below_alloc | apply pw_below_drewN | apply below_drew1) | exact HB.out))) : w.heap.size ≤ gb101)); have n3_ := Aside0.mk ((by rw [hg]; exact (below_size (by repeat (first | (with_reducible first | exact HB.out | apply below_alloc | apply pw_below_drewN | apply below_drew1) | exact HB.out))) : w.heap.size ≤ gb101)); clear HB; have HB := n0_; have BK101 := n1_; have GW101 := n2_; have GE101 := n3_; clear n0_ n1_ n2_ n3_; clear hb hbox hg; have hcz20_0 : w19.cell? ⟨gb101, 0, none⟩ = some (.int .i64 a0_0) := (blk_cell BK101.out 0).trans rfl; have hcz20_1 : w19.cell? ⟨gb101, 1, none⟩ = some (.string a0_1) := (blk_cell BK101.out 1).trans rfl; have hcz20_2 : w19.cell? ⟨gb101, 2, none⟩ = some (.string a0_2) := (blk_cell BK101.out 2).trans rfl; have hcz20_3 : w19.cell? ⟨gb101, 3, none⟩ = some (.slice A0_3 l0_3.length c0_3) := (blk_cell BK101.out 3).trans rfl; have hfz20_0 := blk_frozen BK101.out 0; have hfz20_1 := blk_frozen BK101.out 1; have hfz20_2 := blk_frozen BK101.out 2; have hfz20_3 := blk_frozen BK101.out 3) | ((with_reducible refine gate_callee (f := 18) rfl ?_); refine goesL_ (some 4) rfl rfl Tryd.func18 (by kernel_rfl) rfl #[.agg #[.int .i64 a0_0, .string a0_1, .string a0_2, .slice A0_3 l0_3.length c0_3]] rfl (by (try simp only [List.map_toArray, List.map_cons, List.map_nil]); first | done | rfl | (simp only [List.length_drop, List.length_take]; rfl)) ?_; (with_reducible refine (expr_Depth.calls k a0_0 a0_1 a0_2 _ _ l0_3 t102 _ ?side1 ?side2 A2.out).mono ?_); (case side1 => repeat (first | exact (Kd.C_below HR0_3.out HB.out) | (with_reducible refine Kd.C_alloc ?_ _) | (with_reducible refine Kd.C_drewN ?_ _) | (with_reducible refine Kd.C_drew ?_))); (case side2 => exact HC0_3.out); rintro e w21 ⟨rfl, hb⟩; refine ⟨_, rfl, ?_⟩; have n0_ := Aside0.mk (blk_below (g := gb101) (o := .cells #[.int .i64 a0_0, .string a0_1, .string a0_2, .slice A0_3 l0_3.length c0_3] 24 (0, 0)) (by (with_reducible repeat (first | refine blk_drewN ?_ _ | refine blk_drew ?_ | refine blk_alloc ?_ _)); exact BK101.out) hb); have n1_ := Aside0.mk (below_step (by repeat (first | (with_reducible first | exact HB.out | apply below_alloc | apply pw_below_drewN | apply below_drew1 | refine below_set ?_ GE101.out) | exact HB.out)) hb); clear BK101; clear HB; have BK101 := n0_; have HB := n1_; clear n0_ n1_; (try clear hb); (try clear hb2); (try clear hk); (try clear hi)))
    go_ret
    exact ⟨by first | rfl | (simp [errW_none, errW_some] <;> rfl) | (simp [*, errW_none, errW_some] <;> rfl), by repeat (first | (with_reducible first | exact HB.out | apply below_alloc | apply pw_below_drewN | apply below_drew1 | refine below_set ?_ GE101.out) | exact HB.out)⟩
end Go.Proofs.YtigghbfcflnoeaaDoor.Y
end
section
namespace Go.Proofs.YtigghbfcflnoeaaDoor.Y
open Go.RowKit Go.Proofs.YtigghbfcflnoeaaDoorW.PrintWords Go.Proofs.YtigghbfcflnoeaaDoorW.PrintLast Go.Proofs.YtigghbfcflnoeaaDoorW.PrintMore
attribute [local go_sem] max2_int min2_int max_two min_two max_three min_three max_four min_four
set_option linter.unusedVariables false
set_option linter.unusedSimpArgs false
def expr_Text.f (k : Nat) (a0_0 : Int) (a0_1 : ByteArray) (a0_2 : ByteArray) (l0_3 : List (S24)) : Option (ByteArray) := (expr_Right.f k a0_0 a0_1 a0_2 l0_3).bind fun t102 => (if t102 = true then ((expr_text.f k a0_0 a0_1 a0_2 l0_3).bind fun t103 => (some t103)) else (some (⟨#[]⟩ : ByteArray)))
theorem expr_Text.mono : ∀ a0 a1 a2 a3 k, LeO (expr_Text.f k a0 a1 a2 a3) (expr_Text.f (k + 1) a0 a1 a2 a3) := by
  intro a0 a1 a2 a3 k
  unfold expr_Text.f
  repeat' first
      | (with_reducible exact expr_Right.mono _ _ _ _ _)
      | (with_reducible exact expr_text.mono _ _ _ _ _)
      | (with_reducible exact LeO.refl _)
      | (with_reducible exact LeO.none _)
      | (with_reducible refine LeO.ite ?_ ?_)
      | (with_reducible refine LeO.bind ?_ (fun _ => ?_))
      | exact expr_Right.mono _ _ _ _ _
      | exact expr_text.mono _ _ _ _ _
      | exact LeO.none _
      | refine LeO.ite ?_ ?_
      | refine LeO.bind ?_ (fun _ => ?_)
set_option maxHeartbeats 8000000 in
set_option maxRecDepth 100000 in
theorem expr_Text.calls (k : Nat) (a0_0 : Int) (a0_1 : ByteArray) (a0_2 : ByteArray) (A0_3 : Option Addr) (c0_3 : Nat) (l0_3 : List (S24)) (r : ByteArray) (w : World) (hL : Laid w) (hr0_3 : Kd.C k24 w A0_3 l0_3.length l0_3) (hc0_3 : l0_3.length ≤ c0_3) (h : expr_Text.f k a0_0 a0_1 a0_2 l0_3 = some r) :
    Calls Tryd.prog 20 #[.agg #[.int .i64 a0_0, .string a0_1, .string a0_2, .slice A0_3 l0_3.length c0_3]] w fun e w' => e = .returned (.string r) ∧ Below w.heap.size w w' := by
  have HL := Aside0.mk hL
  clear hL
  have hu24 := Tryd.underlying24
  have HR0_3 := Aside0.mk hr0_3
  have HC0_3 := Aside0.mk hc0_3
  clear hr0_3 hc0_3
  have HB := Aside0.mk (Below.refl w.heap.size w)
  have H : ((expr_Right.f k a0_0 a0_1 a0_2 l0_3).bind fun t102 => (if t102 = true then ((expr_text.f k a0_0 a0_1 a0_2 l0_3).bind fun t103 => (some t103)) else (some (⟨#[]⟩ : ByteArray)))) = some r := h
  clear h
  replace H := Option.bind_eq_some_iff.mp H
  obtain ⟨t102, A20, H⟩ := H
  replace H : (if t102 = true then ((expr_text.f k a0_0 a0_1 a0_2 l0_3).bind fun t103 => (some t103)) else (some (⟨#[]⟩ : ByteArray))) = some r := H
  have A2 := Aside0.mk A20
  clear A20
  by_cases c3 : t102 = true
  · subst c3
    have H1 : ((expr_text.f k a0_0 a0_1 a0_2 l0_3).bind fun t103 => (some t103)) = some r := by rw [if_pos rfl] at H; exact H
    clear H
    have H := H1
    clear H1
    replace H := Option.bind_eq_some_iff.mp H
    obtain ⟨t103, A40, H⟩ := H
    replace H : (some t103) = some r := H
    have A4 := Aside0.mk A40
    clear A40
    obtain rfl := Option.some.inj H
    go_enter Tryd.func20, Tryd.ntmps20
    go_wp2_with (first | ((with_reducible refine gate_dst (N := 1) rfl ?_); refine box_event ?hg (N := 1) ?hd (cs := #[.int .i64 a0_0, .string a0_1, .string a0_2, .slice A0_3 l0_3.length c0_3]) (t := 24) ?hr ?_; (case hd => rfl); (case hg => rfl); (case hr => first | (go_simp; done) | (go_simp; rfl)); intro gb101 hg w5 hbox hb; have n0_ := Aside0.mk (below_step (by repeat (first | (with_reducible first | exact HB.out | apply below_alloc | apply pw_below_drewN | apply below_drew1) | exact HB.out)) hb); have n1_ := Aside0.mk (hbox); have n2_ := Aside0.mk ((by rw [hg]; exact (below_size (by repeat (first | (with_reducible first | exact HB.out | apply below_alloc | apply pw_below_drewN | apply below_drew1) | exact HB.out))) : w.heap.size ≤ gb101)); have n3_ := Aside0.mk ((by rw [hg]; exact (below_size (by repeat (first | (with_reducible first | exact HB.out | apply below_alloc | apply pw_below_drewN | apply below_drew1) | exact HB.out))) : w.heap.size ≤ gb101)); clear HB; have HB := n0_; have BK101 := n1_; have GW101 := n2_; have GE101 := n3_; clear n0_ n1_ n2_ n3_; clear hb hbox hg; have hcz6_0 : w5.cell? ⟨gb101, 0, none⟩ = some (.int .i64 a0_0) := (blk_cell BK101.out 0).trans rfl; have hcz6_1 : w5.cell? ⟨gb101, 1, none⟩ = some (.string a0_1) := (blk_cell BK101.out 1).trans rfl; have hcz6_2 : w5.cell? ⟨gb101, 2, none⟩ = some (.string a0_2) := (blk_cell BK101.out 2).trans rfl; have hcz6_3 : w5.cell? ⟨gb101, 3, none⟩ = some (.slice A0_3 l0_3.length c0_3) := (blk_cell BK101.out 3).trans rfl; have hfz6_0 := blk_frozen BK101.out 0; have hfz6_1 := blk_frozen BK101.out 1; have hfz6_2 := blk_frozen BK101.out 2; have hfz6_3 := blk_frozen BK101.out 3) | ((with_reducible refine gate_callee (f := 17) rfl ?_); refine goesL_ (some 4) rfl rfl Tryd.func17 (by kernel_rfl) rfl #[.agg #[.int .i64 a0_0, .string a0_1, .string a0_2, .slice A0_3 l0_3.length c0_3]] rfl (by (try simp only [List.map_toArray, List.map_cons, List.map_nil]); first | done | rfl | (simp only [List.length_drop, List.length_take]; rfl)) ?_; (with_reducible refine (expr_Right.calls k a0_0 a0_1 a0_2 _ _ l0_3 true _ ?sideL ?side1 ?side2 A2.out).mono ?_); (case sideL => exact HL.out.below (by repeat (first | (with_reducible first | exact HB.out | exact Below.refl _ _ | apply below_alloc | apply pw_below_drewN | apply below_drew1 | refine below_set ?_ GE101.out) | exact HB.out))); (case side1 => repeat (first | exact (Kd.C_below HR0_3.out HB.out) | (with_reducible refine Kd.C_alloc ?_ _) | (with_reducible refine Kd.C_drewN ?_ _) | (with_reducible refine Kd.C_drew ?_))); (case side2 => exact HC0_3.out); rintro e w7 ⟨rfl, hb⟩; refine ⟨_, rfl, ?_⟩; have n0_ := Aside0.mk (blk_below (g := gb101) (o := .cells #[.int .i64 a0_0, .string a0_1, .string a0_2, .slice A0_3 l0_3.length c0_3] 24 (0, 0)) (by (with_reducible repeat (first | refine blk_drewN ?_ _ | refine blk_drew ?_ | refine blk_alloc ?_ _)); exact BK101.out) hb); have n1_ := Aside0.mk (below_step (by repeat (first | (with_reducible first | exact HB.out | apply below_alloc | apply pw_below_drewN | apply below_drew1 | refine below_set ?_ GE101.out) | exact HB.out)) hb); clear BK101; clear HB; have BK101 := n0_; have HB := n1_; clear n0_ n1_; (try clear hb); (try clear hb2); (try clear hk); (try clear hi); have hcz8_0 : w7.cell? ⟨gb101, 0, none⟩ = some (.int .i64 a0_0) := (blk_cell BK101.out 0).trans rfl; have hcz8_1 : w7.cell? ⟨gb101, 1, none⟩ = some (.string a0_1) := (blk_cell BK101.out 1).trans rfl; have hcz8_2 : w7.cell? ⟨gb101, 2, none⟩ = some (.string a0_2) := (blk_cell BK101.out 2).trans rfl; have hcz8_3 : w7.cell? ⟨gb101, 3, none⟩ = some (.slice A0_3 l0_3.length c0_3) := (blk_cell BK101.out 3).trans rfl; have hfz8_0 := blk_frozen BK101.out 0; have hfz8_1 := blk_frozen BK101.out 1; have hfz8_2 := blk_frozen BK101.out 2; have hfz8_3 := blk_frozen BK101.out 3) | ((with_reducible refine gate_callee (f := 49) rfl ?_); refine goesL_ (some 7) rfl rfl Tryd.func49 (by kernel_rfl) rfl #[.agg #[.int .i64 a0_0, .string a0_1, .string a0_2, .slice A0_3 l0_3.length c0_3]] rfl (by (try simp only [List.map_toArray, List.map_cons, List.map_nil]); first | done | rfl | (simp only [List.length_drop, List.length_take]; rfl)) ?_; (with_reducible refine (expr_text.calls k a0_0 a0_1 a0_2 _ _ l0_3 t103 _ ?side1 ?side2 A4.out).mono ?_); (case side1 => repeat (first | exact (Kd.C_below HR0_3.out HB.out) | (with_reducible refine Kd.C_alloc ?_ _) | (with_reducible refine Kd.C_drewN ?_ _) | (with_reducible refine Kd.C_drew ?_))); (case side2 => exact HC0_3.out); rintro e w9 ⟨rfl, hb⟩; refine ⟨_, rfl, ?_⟩; have n0_ := Aside0.mk (blk_below (g := gb101) (o := .cells #[.int .i64 a0_0, .string a0_1, .string a0_2, .slice A0_3 l0_3.length c0_3] 24 (0, 0)) (by (with_reducible repeat (first | refine blk_drewN ?_ _ | refine blk_drew ?_ | refine blk_alloc ?_ _)); exact BK101.out) hb); have n1_ := Aside0.mk (below_step (by repeat (first | (with_reducible first | exact HB.out | apply below_alloc | apply pw_below_drewN | apply below_drew1 | refine below_set ?_ GE101.out) | exact HB.out)) hb); clear BK101; clear HB; have BK101 := n0_; have HB := n1_; clear n0_ n1_; (try clear hb); (try clear hb2); (try clear hk); (try clear hi)))
    go_ret
    exact ⟨by first | rfl | (simp [errW_none, errW_some] <;> rfl) | (simp [*, errW_none, errW_some] <;> rfl), by repeat (first | (with_reducible first | exact HB.out | apply below_alloc | apply pw_below_drewN | apply below_drew1 | refine below_set ?_ GE101.out) | exact HB.out)⟩
  · replace c3 := Bool.eq_false_iff.mpr c3
    subst c3
    have H1 : (some (⟨#[]⟩ : ByteArray)) = some r := by rw [if_neg (show ¬ (false = true) by decide)] at H; exact H
    clear H
    have H := H1
    clear H1
    obtain rfl := Option.some.inj H
    go_enter Tryd.func20, Tryd.ntmps20
    go_wp2_with (first | ((with_reducible refine gate_dst (N := 1) rfl ?_); refine box_event ?hg (N := 1) ?hd (cs := #[.int .i64 a0_0, .string a0_1, .string a0_2, .slice A0_3 l0_3.length c0_3]) (t := 24) ?hr ?_; (case hd => rfl); (case hg => rfl); (case hr => first | (go_simp; done) | (go_simp; rfl)); intro gb101 hg w10 hbox hb; have n0_ := Aside0.mk (below_step (by repeat (first | (with_reducible first | exact HB.out | apply below_alloc | apply pw_below_drewN | apply below_drew1) | exact HB.out)) hb); have n1_ := Aside0.mk (hbox); have n2_ := Aside0.mk ((by rw [hg]; exact (below_size (by repeat (first | (with_reducible first | exact HB.out | apply below_alloc | apply pw_below_drewN | apply below_drew1) | exact HB.out))) : w.heap.size ≤ gb101)); have n3_ := Aside0.mk ((by rw [hg]; exact (below_size (by repeat (first | (with_reducible first | exact HB.out | apply below_alloc | apply pw_below_drewN | apply below_drew1) | exact HB.out))) : w.heap.size ≤ gb101)); clear HB; have HB := n0_; have BK101 := n1_; have GW101 := n2_; have GE101 := n3_; clear n0_ n1_ n2_ n3_; clear hb hbox hg; have hcz11_0 : w10.cell? ⟨gb101, 0, none⟩ = some (.int .i64 a0_0) := (blk_cell BK101.out 0).trans rfl; have hcz11_1 : w10.cell? ⟨gb101, 1, none⟩ = some (.string a0_1) := (blk_cell BK101.out 1).trans rfl; have hcz11_2 : w10.cell? ⟨gb101, 2, none⟩ = some (.string a0_2) := (blk_cell BK101.out 2).trans rfl; have hcz11_3 : w10.cell? ⟨gb101, 3, none⟩ = some (.slice A0_3 l0_3.length c0_3) := (blk_cell BK101.out 3).trans rfl; have hfz11_0 := blk_frozen BK101.out 0; have hfz11_1 := blk_frozen BK101.out 1; have hfz11_2 := blk_frozen BK101.out 2; have hfz11_3 := blk_frozen BK101.out 3) | ((with_reducible refine gate_callee (f := 17) rfl ?_); refine goesL_ (some 4) rfl rfl Tryd.func17 (by kernel_rfl) rfl #[.agg #[.int .i64 a0_0, .string a0_1, .string a0_2, .slice A0_3 l0_3.length c0_3]] rfl (by (try simp only [List.map_toArray, List.map_cons, List.map_nil]); first | done | rfl | (simp only [List.length_drop, List.length_take]; rfl)) ?_; (with_reducible refine (expr_Right.calls k a0_0 a0_1 a0_2 _ _ l0_3 false _ ?sideL ?side1 ?side2 A2.out).mono ?_); (case sideL => exact HL.out.below (by repeat (first | (with_reducible first | exact HB.out | exact Below.refl _ _ | apply below_alloc | apply pw_below_drewN | apply below_drew1 | refine below_set ?_ GE101.out) | exact HB.out))); (case side1 => repeat (first | exact (Kd.C_below HR0_3.out HB.out) | (with_reducible refine Kd.C_alloc ?_ _) | (with_reducible refine Kd.C_drewN ?_ _) | (with_reducible refine Kd.C_drew ?_))); (case side2 => exact HC0_3.out); rintro e w12 ⟨rfl, hb⟩; refine ⟨_, rfl, ?_⟩; have n0_ := Aside0.mk (blk_below (g := gb101) (o := .cells #[.int .i64 a0_0, .string a0_1, .string a0_2, .slice A0_3 l0_3.length c0_3] 24 (0, 0)) (by (with_reducible repeat (first | refine blk_drewN ?_ _ | refine blk_drew ?_ | refine blk_alloc ?_ _)); exact BK101.out) hb); have n1_ := Aside0.mk (below_step (by repeat (first | (with_reducible first | exact HB.out | apply below_alloc | apply pw_below_drewN | apply below_drew1 | refine below_set ?_ GE101.out) | exact HB.out)) hb); clear BK101; clear HB; have BK101 := n0_; have HB := n1_; clear n0_ n1_; (try clear hb); (try clear hb2); (try clear hk); (try clear hi)))
    go_ret
    exact ⟨by first | rfl | (simp [errW_none, errW_some] <;> rfl) | (simp [*, errW_none, errW_some] <;> rfl), by repeat (first | (with_reducible first | exact HB.out | apply below_alloc | apply pw_below_drewN | apply below_drew1 | refine below_set ?_ GE101.out) | exact HB.out)⟩
end Go.Proofs.YtigghbfcflnoeaaDoor.Y
end
section
namespace Go.Proofs.YtigghbfcflnoeaaDoor.Y
open Go.RowKit Go.Proofs.YtigghbfcflnoeaaDoorW.PrintWords Go.Proofs.YtigghbfcflnoeaaDoorW.PrintLast Go.Proofs.YtigghbfcflnoeaaDoorW.PrintMore
attribute [local go_sem] max2_int min2_int max_two min_two max_three min_three max_four min_four
set_option linter.unusedVariables false
set_option linter.unusedSimpArgs false
def expr_Leaves.f (_a0_0 : Int) (_a0_1 : ByteArray) (_a0_2 : ByteArray) (_l0_3 : List (S24)) : Option (Bool) := some true
theorem expr_Leaves.calls (a0_0 : Int) (a0_1 : ByteArray) (a0_2 : ByteArray) (A0_3 : Option Addr) (c0_3 : Nat) (l0_3 : List (S24)) (r : Bool) (w : World) (_hr0_3 : Kd.C k24 w A0_3 l0_3.length l0_3) (_hc0_3 : l0_3.length ≤ c0_3) (_h : expr_Leaves.f a0_0 a0_1 a0_2 l0_3 = some r) :
    Calls Tryd.prog 25 #[.agg #[.int .i64 a0_0, .string a0_1, .string a0_2, .slice A0_3 l0_3.length c0_3]] w fun e w' => e = .returned (.func (.func 55) #[] #[.pointer (some ⟨w.heap.size, 0, none⟩)]) ∧ Below w.heap.size w w' :=
  (leaves_calls ⟨a0_0, a0_1, a0_2, l0_3⟩ A0_3 c0_3 w).mono fun _ _ ⟨he, hw⟩ => ⟨he, hw ▸ below_alloc (Below.refl _ _) _⟩
end Go.Proofs.YtigghbfcflnoeaaDoor.Y
end
section
namespace Go.Proofs.YtigghbfcflnoeaaDoor.Y
open Go.RowKit Go.Proofs.YtigghbfcflnoeaaDoorW.PrintWords Go.Proofs.YtigghbfcflnoeaaDoorW.PrintLast Go.Proofs.YtigghbfcflnoeaaDoorW.PrintMore
attribute [local go_sem] max2_int min2_int max_two min_two max_three min_three max_four min_four
set_option linter.unusedVariables false
set_option linter.unusedSimpArgs false
def er : S24 → S24
  | ⟨_, b, c, l⟩ => ⟨0, b, c, erL l⟩
where erL : List S24 → List S24
  | [] => []
  | x :: xs => er x :: erL xs
theorem erL_map (l : List S24) : er.erL l = l.map er := by
  induction l with
  | nil => rw [er.erL]; rfl
  | cons x xs ih => rw [er.erL, ih]; rfl
theorem er_eq (x : S24) : er x = ⟨0, x.f1, x.f2, x.f3.map er⟩ := by
  cases x
  rw [er, erL_map]
structure Mod (lo : Nat) (Z : Nat → Prop) (w w' : World) : Prop where
  low : Below lo w w'
  far : ∀ k, k < w.heap.size → ¬ Z k → w'.heap[k]? = w.heap[k]?
  near : ∀ k, Z k → k < w.heap.size → ∀ cs t fr, w.heap[k]? = some (.cells cs t fr) → ∃ cs', w'.heap[k]? = some (.cells cs' t fr) ∧ ∀ (j : Nat) u, cs[j]? = some u → cs'[j]? = some u ∨ ∃ a b, u = .int .i64 a ∧ cs'[j]? = some (.int .i64 b)
theorem Mod.refl (lo : Nat) (Z : Nat → Prop) (w : World) : Mod lo Z w w := ⟨Below.refl _ _, fun _ _ _ => rfl, fun _ _ _ cs _ _ h => ⟨cs, h, fun _ _ hu => .inl hu⟩⟩
theorem Mod.trans {lo : Nat} {Z : Nat → Prop} {a b c : World} (h : Mod lo Z a b) (k : Mod lo Z b c) : Mod lo Z a c := by
  refine ⟨h.low.trans k.low, fun i hi hz => (k.far i (Nat.lt_of_lt_of_le hi h.low.size) hz).trans (h.far i hi hz), fun i hz hi cs t fr hc => ?_⟩
  obtain ⟨cs1, h1, g1⟩ := h.near i hz hi cs t fr hc
  obtain ⟨cs2, h2, g2⟩ := k.near i hz (Nat.lt_of_lt_of_le hi h.low.size) cs1 t fr h1
  refine ⟨cs2, h2, fun j u hu => ?_⟩
  rcases g1 j u hu with e | ⟨x, y, rfl, e⟩
  · exact g2 j u e
  · rcases g2 j _ e with e2 | ⟨_, z, _, e2⟩
    · exact .inr ⟨x, y, rfl, e2⟩
    · exact .inr ⟨x, z, rfl, e2⟩
theorem Mod.of_below {lo : Nat} {Z : Nat → Prop} {w w' : World} (h : Below w.heap.size w w') (hl : lo ≤ w.heap.size) : Mod lo Z w w' :=
  ⟨h.mono hl, fun k hk _ => h.block k hk, fun k _ hk cs _ _ hc => ⟨cs, (h.block k hk).trans hc, fun _ _ hu => .inl hu⟩⟩
theorem Mod.cell {lo : Nat} {Z : Nat → Prop} {w w' : World} (h : Mod lo Z w w') {a : Addr} {u : Value} (hz : Z a.block) (hc : w.cell? a = some u) : w'.cell? a = some u ∨ ∃ x y, u = .int .i64 x ∧ w'.cell? a = some (.int .i64 y) := by
  have hlt := World.block_lt_of_cell? w a hc
  unfold World.cell? at hc ⊢
  split at hc
  · rename_i cs t fr hb
    split at hc
    · cases hc
    · rename_i hs
      obtain ⟨cs', h1, h2⟩ := h.near a.block hz hlt cs t fr hb
      rw [h1]
      simp only [hs]
      exact h2 a.off u hc
  · cases hc
theorem cell_of_heap {w w' : World} {a : Addr} {u : Value} (h : w'.heap[a.block]? = w.heap[a.block]?) (hc : w.cell? a = some u) : w'.cell? a = some u := by
  unfold World.cell? at hc ⊢
  rw [h]
  exact hc
theorem mod_F {lo : Nat} {Z : Nat → Prop} {w w' : World} (h : Mod lo Z w w') : ∀ (N : Nat) (xs : List S24) (A : Option Addr), wgt.wgtL xs ≤ N → Kd.F k24 w Z A xs.length xs → ∃ ys : List S24, ys.map er = xs.map er ∧ Kd.F k24 w' Z A ys.length ys := by
  intro N
  induction N using Nat.strongRecOn with
  | ind N ih =>
    intro xs A hN hF
    have elem : ∀ i (hi : i < xs.length), ∃ (ad : Addr) (y : S24), A = some ad ∧ er y = er xs[i] ∧ ∀ W'' : World, (∀ k, Z k → k < w'.heap.size → W''.heap[k]? = w'.heap[k]?) → ∃ c, c.length = 4 ∧ k24.K W'' y c ∧ ∀ j u, c[j]? = some u → W''.cell? (ad.add (i * 4 + j)) = some u := by
      intro i hi
      obtain ⟨ad, c, rfl, hcl, hK, hcc, hz⟩ := Kd.F_get hF z24 (i : Int) (by omega) (by omega)
      have hz := hz (by decide)
      have hx : xs.getD ((i : Int)).toNat z24 = xs[i] := by simp [hi]
      rw [hx] at hK
      obtain ⟨A3, c3, rfl, l3, g3⟩ := k24_openF hK
      have hw : wgt.wgtL xs[i].f3 < N := by
        have h1 := wgtL_mem (List.getElem_mem hi)
        have h2 := wgt_eq xs[i]
        omega
      obtain ⟨ys, e1, e2⟩ := ih _ hw xs[i].f3 A3 (Nat.le_refl _) g3
      have hlen : ys.length = xs[i].f3.length := by have := congrArg List.length e1; simpa using this
      have cc : ∀ j u, [Value.int .i64 xs[i].f0, .string xs[i].f1, .string xs[i].f2, .slice A3 xs[i].f3.length c3][j]? = some u → w.cell? (ad.add (i * 4 + j)) = some u := hcc
      have hbl : ∀ m : Nat, (ad.add m).block = ad.block := fun m => by unfold Addr.add; first | rfl | (split <;> rfl)
      have hzz : ∀ m : Nat, Z (ad.add m).block := fun m => by rw [hbl]; exact hz
      obtain ⟨b, hb0⟩ : ∃ b, w'.cell? (ad.add (i * 4 + 0)) = some (.int .i64 b) := by
        rcases h.cell (a := ad.add (i * 4 + 0)) (hzz _) (cc 0 _ rfl) with e | ⟨_, y, _, e⟩
        · exact ⟨_, e⟩
        · exact ⟨_, e⟩
      have hb1 : w'.cell? (ad.add (i * 4 + 1)) = some (.string xs[i].f1) := by
        rcases h.cell (a := ad.add (i * 4 + 1)) (hzz _) (cc 1 _ rfl) with e | ⟨_, y, e, _⟩
        · exact e
        · cases e
      have hb2 : w'.cell? (ad.add (i * 4 + 2)) = some (.string xs[i].f2) := by
        rcases h.cell (a := ad.add (i * 4 + 2)) (hzz _) (cc 2 _ rfl) with e | ⟨_, y, e, _⟩
        · exact e
        · cases e
      have hb3 : w'.cell? (ad.add (i * 4 + 3)) = some (.slice A3 xs[i].f3.length c3) := by
        rcases h.cell (a := ad.add (i * 4 + 3)) (hzz _) (cc 3 _ rfl) with e | ⟨_, y, e, _⟩
        · exact e
        · cases e
      refine ⟨ad, ⟨b, xs[i].f1, xs[i].f2, ys⟩, rfl, by rw [er_eq, er_eq, e1], fun W'' hW => ⟨[.int .i64 b, .string xs[i].f1, .string xs[i].f2, .slice A3 ys.length c3], rfl, k24_mk W'' ⟨b, xs[i].f1, xs[i].f2, ys⟩ (by show ys.length ≤ c3; omega) (e2 W'' hW), fun j u hu => ?_⟩⟩
      have hcell : ∀ j v, w'.cell? (ad.add (i * 4 + j)) = some v → W''.cell? (ad.add (i * 4 + j)) = some v := fun j v hv => cell_of_heap (hW _ (hzz _) (World.block_lt_of_cell? w' (ad.add (i * 4 + j)) hv)) hv
      match j, hu with
      | 0, hu => obtain rfl := Option.some.inj hu; exact hcell 0 _ hb0
      | 1, hu => obtain rfl := Option.some.inj hu; exact hcell 1 _ hb1
      | 2, hu => obtain rfl := Option.some.inj hu; exact hcell 2 _ hb2
      | 3, hu =>
        obtain rfl := Option.some.inj hu
        rw [hlen]
        exact hcell 3 _ hb3
    have build : ∀ q, q ≤ xs.length → ∃ ys : List S24, ys.length = q ∧ ys.map er = (xs.take q).map er ∧ ∀ j p, ys[j]? = some p → ∃ ad, A = some ad ∧ ∀ W'' : World, (∀ k, Z k → k < w'.heap.size → W''.heap[k]? = w'.heap[k]?) → ∃ c, c.length = 4 ∧ k24.K W'' p c ∧ ∀ i u, c[i]? = some u → W''.cell? (ad.add (j * 4 + i)) = some u := by
      intro q
      induction q with
      | zero => exact fun _ => ⟨[], rfl, by simp, (fun j p hj => by simp at hj)⟩
      | succ q ihq =>
        intro hq
        obtain ⟨ys, h1, h2, h3⟩ := ihq (by omega)
        obtain ⟨ad, y, hA, hy, hc⟩ := elem q (by omega)
        refine ⟨ys ++ [y], by simp [h1], by rw [List.take_succ_eq_append_getElem (by omega), List.map_append, List.map_append, h2]; simp [hy], fun j p hj => ?_⟩
        by_cases hlt : j < q
        · rw [List.getElem?_append_left (by omega)] at hj
          exact h3 j p hj
        · rw [List.getElem?_append_right (by omega)] at hj
          have hj0 : j = q := by
            have := (List.getElem?_eq_some_iff.mp hj).1
            simp at this
            omega
          subst hj0
          rw [h1, Nat.sub_self] at hj
          obtain rfl : y = p := by simpa using hj
          exact ⟨ad, hA, hc⟩
    obtain ⟨ys, g1, g2, g3⟩ := build xs.length (Nat.le_refl _)
    rw [List.take_length] at g2
    refine ⟨ys, g2, fun W'' hW => ?_⟩
    have hnn := (Kd.F_now hF).2.1
    refine ⟨rfl, by omega, fun hp => ?_⟩
    obtain ⟨y0, hy0⟩ : ∃ y0, ys[0]? = some y0 := ⟨_, List.getElem?_eq_getElem hp⟩
    obtain ⟨ad, hA, _⟩ := g3 0 y0 hy0
    refine ⟨ad, hA, fun j p hj => ?_⟩
    obtain ⟨ad', hA', hc⟩ := g3 j p hj
    obtain rfl : ad = ad' := Option.some.inj (hA.symm.trans hA')
    obtain ⟨c, k1, k2, k3⟩ := hc W'' hW
    exact ⟨c, k1, k2, k3⟩
end Go.Proofs.YtigghbfcflnoeaaDoor.Y
end
section
namespace Go.Proofs.YtigghbfcflnoeaaDoor.Y
open Go.RowKit Go.Proofs.YtigghbfcflnoeaaDoorW.PrintWords Go.Proofs.YtigghbfcflnoeaaDoorW.PrintLast Go.Proofs.YtigghbfcflnoeaaDoorW.PrintMore
attribute [local go_sem] max2_int min2_int max_two min_two max_three min_three max_four min_four
set_option linter.unusedVariables false
set_option linter.unusedSimpArgs false
def UF (Z : Nat → Prop) (w : World) : Prop := ∀ k, Z k → k < w.heap.size ∧ ∃ cs t, w.heap[k]? = some (.cells cs t (0, 0))
theorem UF.mod {lo : Nat} {Z : Nat → Prop} {w w' : World} (h : UF Z w) (m : Mod lo Z w w') : UF Z w' := by
  intro k hz
  obtain ⟨h1, cs, t, h2⟩ := h k hz
  obtain ⟨cs', h3, _⟩ := m.near k hz h1 cs t _ h2
  exact ⟨Nat.lt_of_lt_of_le h1 m.low.size, cs', t, h3⟩
theorem er_len {xs ys : List S24} (h : ys.map er = xs.map er) : ys.length = xs.length := by have := congrArg List.length h; simpa using this
theorem frozen_at {w : World} {a : Addr} {cs : Array Value} {t : TypeId} (h : w.heap[a.block]? = some (.cells cs t (0, 0))) : w.frozen? a = false := by simp [World.frozen?, h]
theorem Mod.store {lo : Nat} {Z : Nat → Prop} {w : World} {a : Addr} {x y : Int} (hz : Z a.block) (hlo : lo ≤ a.block) (hc : w.cell? a = some (.int .i64 x)) : Mod lo Z w (w.setCell a (.int .i64 y)) := by
  refine ⟨(Below.refl lo w).setCell (p := a) hlo _, fun k _ hk => Below.heap_setCell w a _ k (fun e => hk (e ▸ hz)), fun k hk hlt cs t fr hh => ?_⟩
  by_cases e : k = a.block
  · subst e
    have hcell := hc
    unfold World.cell? at hcell
    rw [hh] at hcell
    simp only at hcell
    split at hcell
    · cases hcell
    · rename_i hs
      refine ⟨cs.setIfInBounds a.off (.int .i64 y), ?_, fun j u hu => ?_⟩
      · have hlt' : a.block < w.heap.size := hlt
        simp only [World.setCell, Array.getElem?_modify, if_true, hh, Option.map_some, hs]
        rfl
      · by_cases ej : a.off = j
        · subst ej
          rw [hu] at hcell
          obtain rfl := Option.some.inj hcell
          have hj := (Array.getElem?_eq_some_iff.1 hu).1
          exact .inr ⟨x, y, rfl, by simp [Array.getElem?_setIfInBounds, hj]⟩
        · exact .inl (by rw [Array.getElem?_setIfInBounds_ne ej]; exact hu)
  · exact ⟨cs, (Below.heap_setCell w a _ k e).trans hh, fun _ _ hu => .inl hu⟩
theorem wgt_er : ∀ x y : S24, er x = er y → wgt x = wgt y := by
  have key : ∀ x : S24, wgt (er x) = wgt x := by
    intro x
    induction x using S24.ind with
    | h x ih =>
      rw [er_eq, wgt_eq, wgt_eq x]
      have : ∀ l : List S24, (∀ y ∈ l, y ∈ x.f3) → wgt.wgtL (l.map er) = wgt.wgtL l := by
        intro l
        induction l with
        | nil => intro _; rfl
        | cons y ys ihl => intro hm; rw [List.map_cons, wgt.wgtL, wgt.wgtL, ih y (hm y (by simp)), ihl (fun z hz => hm z (by simp [hz]))]
      rw [this x.f3 (fun _ h => h)]
  intro x y h
  rw [← key x, ← key y, h]
theorem meas_lt {k n : Nat} (h : k < n) : n - (intOf (.int .i64 ((k : Int) + 1))).toNat < n - (intOf (.int .i64 (k : Int))).toNat := by
  show n - ((k : Int) + 1).toNat < n - ((k : Int)).toNat
  omega
set_option maxHeartbeats 4000000 in
set_option maxRecDepth 100000 in
theorem change_calls (lo : Nat) (Z : Nat → Prop) (hlo : ∀ k, Z k → lo ≤ k) : ∀ (N : Nat) (x : S24) (A : Option Addr) (c : Nat) (w : World), wgt x ≤ N → Kd.F k24 w Z A x.f3.length x.f3 → x.f3.length ≤ c → UF Z w → lo ≤ w.heap.size →
    Calls Tryd.prog 31 #[exV x A c] w fun e w' => e = .returned (.tuple #[]) ∧ Mod lo Z w w' := by
  intro N
  induction N using Nat.strongRecOn with
  | ind N ih =>
    intro x A c w hN hF hc hU hl
    have IH := Aside0.mk ih
    have HF := Aside0.mk hF
    have HU := Aside0.mk hU
    have HL := Aside0.mk hl
    have HW := Aside0.mk hN
    have HLO := Aside0.mk hlo
    clear ih hF hU hl hN hlo
    go_enter Tryd.func31, Tryd.ntmps31
    go_wp2_with fail
    go_loopw [2] (fun v wr => ∃ k : Nat, v = .int .i64 k ∧ k ≤ x.f3.length ∧ Aside0 (Mod lo Z w wr) ∧ Aside0 (wr.heap[w.heap.size]? = some (exBox x A c))) (fun v _ => x.f3.length - (intOf v).toNat)
    case atStart => exact ⟨0, rfl, Nat.zero_le _, ⟨Mod.of_below (below_alloc (Below.refl _ _) _) HL.out⟩, ⟨blk_new w _⟩⟩
    case round =>
      obtain ⟨k, rfl, hk, hM, hB⟩ := hrel
      have b3 : wr.cell? ⟨w.heap.size, 3, none⟩ = some (.slice A x.f3.length c) := (blk_cell hB.out 3).trans rfl
      by_cases hlt : k < x.f3.length
      · obtain ⟨ys, ye, hY⟩ := mod_F hM.out _ x.f3 A (Nat.le_refl _) HF.out
        have hyl := er_len ye
        obtain ⟨y, hy⟩ : ∃ y, ys[k]? = some y := ⟨_, List.getElem?_eq_getElem (by omega)⟩
        obtain ⟨ad, cc, rfl, hcl, hK, hcc, hz⟩ := Kd.F_get hY z24 (k : Int) (by omega) (by omega)
        have hz := hz (by decide)
        have hyx : ys.getD ((k : Int)).toNat z24 = y := by simp [List.getD_eq_getElem?_getD, hy]
        rw [hyx] at hK
        obtain ⟨A3, c3, rfl, l3, g3⟩ := k24_openF hK
        have hzz : ∀ m : Nat, (ad.add m).block = ad.block := fun m => by unfold Addr.add; split <;> rfl
        have x0 : wr.cell? (ad.add (k * 4)) = some (.int .i64 y.f0) := hcc 0 _ rfl
        have x1 : wr.cell? ⟨(ad.add (k * 4)).block, (ad.add (k * 4)).off + 1, none⟩ = some (.string y.f1) := by rw [← add_field _ _ 1 (by omega)]; exact hcc 1 _ rfl
        have x2 : wr.cell? ⟨(ad.add (k * 4)).block, (ad.add (k * 4)).off + 2, none⟩ = some (.string y.f2) := by rw [← add_field _ _ 2 (by omega)]; exact hcc 2 _ rfl
        have x3 : wr.cell? ⟨(ad.add (k * 4)).block, (ad.add (k * 4)).off + 3, none⟩ = some (.slice A3 y.f3.length c3) := by rw [← add_field _ _ 3 (by omega)]; exact hcc 3 _ rfl
        have hwy : wgt y = wgt x.f3[k] := wgt_er _ _ (by
          have := congrArg (fun l => l[k]?) ye
          simpa [hlt, hy] using this)
        have hwx := wgt_eq x
        have hwm := wgtL_mem (List.getElem_mem hlt)
        have hcall := IH.out (wgt y) (by have := HW.out; omega) y A3 c3 wr (Nat.le_refl _) g3 l3 (HU.out.mod hM.out) (Nat.le_trans HL.out hM.out.low.size)
        have HC := Aside0.mk hcall
        have HX := Aside0.mk (And.intro hz x0)
        have p0 : (0 ≤ (k : Int)) = True := eq_true (by omega)
        have p1 : ((k : Int) < (x.f3.length : Int)) = True := eq_true (by omega)
        have qi : (k < x.f3.length) = True := eq_true hlt
        clear hcall hK hcc hz hwy hwx hwm g3 l3
        have HZZ := Aside0.mk hzz
        clear hY ye hyl hyx hy hzz
        go_wp2_with fail
        refine HC.out.mono ?_
        rintro e W2 ⟨rfl, hm2⟩
        clear x0 x1 x2 x3 b3
        have HM2 := Aside0.mk (hM.out.trans hm2)
        have hnz : ¬ Z w.heap.size := fun h => Nat.lt_irrefl _ (HU.out _ h).1
        have hlt1 : w.heap.size < wr.heap.size := (Array.getElem?_eq_some_iff.1 hB.out).1
        have hB2 : W2.heap[w.heap.size]? = some (exBox x (some ad) c) := (hm2.far _ hlt1 hnz).trans hB.out
        have HB2 := Aside0.mk hB2
        have HNZ := Aside0.mk hnz
        have b3 : W2.cell? ⟨w.heap.size, 3, none⟩ = some (.slice (some ad) x.f3.length c) := (blk_cell hB2 3).trans rfl
        have hzk : Z (ad.add (k * 4)).block := by rw [HZZ.out]; exact HX.out.1
        obtain ⟨b, x0⟩ : ∃ b, W2.cell? (ad.add (k * 4)) = some (.int .i64 b) := by
          rcases hm2.cell hzk HX.out.2 with e | ⟨_, z, _, e⟩
          · exact ⟨_, e⟩
          · exact ⟨_, e⟩
        have zf : W2.frozen? (ad.add (k * 4)) = false := by
          obtain ⟨_, cs, t, hcs⟩ := (HU.out.mod HM2.out) _ hzk
          exact frozen_at hcs
        have HS := Aside0.mk (show Mod lo Z W2 (W2.setCell (ad.add (k * 4)) (.int .i64 99)) from Mod.store hzk (HLO.out _ hzk) x0)
        have HB3 := Aside0.mk (show (W2.setCell (ad.add (k * 4)) (.int .i64 99)).heap[w.heap.size]? = some (exBox x (some ad) c) from (Below.heap_setCell W2 _ _ _ (fun e => hnz (by rw [e]; exact hzk))).trans hB2)
        have hw1 : wrap64 ((k : Int) + 1) = (k : Int) + 1 := wrap_ok (by omega) (by have := (Kd.F_now HF.out).2.1; omega)
        clear hm2 hnz hlt1 hB2 hzk HC
        go_wp2
        go_roundw
        case rel => exact ⟨k + 1, by go_num, by omega, ⟨HM2.out.trans HS.out⟩, HB3⟩
        case measure =>
          clear HF HU HL HW HLO IH HX HM2 HB2 HNZ HS HB3 hM hB HZZ b3 x0 zf
          first | exact meas_lt hlt | (rw [hw1]; exact meas_lt hlt)
      · have hke : k = x.f3.length := by omega
        have q1 : ((k : Int) < (x.f3.length : Int)) = False := eq_false (by omega)
        clear hke
        go_wp2
        go_end0
        exact ⟨rfl, hM.out⟩
end Go.Proofs.YtigghbfcflnoeaaDoor.Y
end
