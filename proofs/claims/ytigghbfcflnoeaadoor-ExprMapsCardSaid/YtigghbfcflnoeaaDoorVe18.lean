/- A part of the proof of the claim's statement: plain laws and walks (some printed by a program over the kit's printer). It has no conditions of its own. -/
import Derived.Test.YtigghbfcflnoeaaDoorVe17
import Derived.Test.YtigghbfcflnoeaaDoorVe11
import Derived.Test.YtigghbfcflnoeaaDoorVe13
import Derived.Test.YtigghbfcflnoeaaDoorVe16
import Derived.Test.YtigghbfcflnoeaaDoorVe5
import Derived.Lib.Join
section
namespace Go.Proofs.YtigghbfcflnoeaaDoor.Y
open Go.RowKit Go.Proofs.YtigghbfcflnoeaaDoorW.PrintWords Go.Proofs.YtigghbfcflnoeaaDoorW.PrintLast Go.Proofs.YtigghbfcflnoeaaDoorW.PrintMore
attribute [local go_sem] max2_int min2_int max_two min_two max_three min_three max_four min_four
set_option linter.unusedVariables false
set_option linter.unusedSimpArgs false
theorem ba_ext {a b : ByteArray} (h : a.data.toList = b.data.toList) : a = b := by
  obtain ⟨⟨a⟩⟩ := a
  obtain ⟨⟨b⟩⟩ := b
  obtain rfl : a = b := h
  rfl
theorem ba_append (a b : ByteArray) : (a ++ b).data.toList = a.data.toList ++ b.data.toList := by
  rw [ByteArray.data_append, Array.toList_append]
theorem ba_size (a : ByteArray) : a.size = a.data.toList.length := (data_length a).symm
def sgn (k : Int) : List UInt8 := if k = 3 then [32, 43, 32] else if k = 4 then [32, 38, 32] else [32, 45, 32]
theorem sgn_len (k : Int) : (sgn k).length = 3 := by
  unfold sgn
  split
  · rfl
  · split <;> rfl
def txt : S24 → List UInt8
  | ⟨a, b, c, l⟩ => if a = 1 then c.data.toList else if a = 2 then b.data.toList ++ [45, 62] ++ c.data.toList else Lib.join (txtL l) (sgn a)
where txtL : List S24 → List (List UInt8)
  | [] => []
  | x :: xs => (if leafk x.f0 = true then txt x else 40 :: txt x ++ [41]) :: txtL xs
def piece (x : S24) : List UInt8 := if leafk x.f0 = true then txt x else 40 :: txt x ++ [41]
theorem txtL_map (l : List S24) : txt.txtL l = l.map piece := by
  induction l with
  | nil => rw [txt.txtL]; rfl
  | cons x xs ih => rw [txt.txtL, ih]; rfl
theorem txt_eq (x : S24) : txt x = if x.f0 = 1 then x.f2.data.toList else if x.f0 = 2 then x.f1.data.toList ++ [45, 62] ++ x.f2.data.toList else Lib.join (x.f3.map piece) (sgn x.f0) := by
  cases x
  rw [txt, txtL_map]
theorem join_snoc (xs : List (List UInt8)) (y sep : List UInt8) : Lib.join (xs ++ [y]) sep = if xs = [] then y else Lib.join xs sep ++ sep ++ y := by
  cases xs with
  | nil => simp [Lib.join_one]
  | cons x r =>
    rw [List.cons_append, Lib.join_cons, Lib.join_cons, if_neg (by simp)]
    simp [Lib.joinTail]
def plen (xs : List (List UInt8)) : Nat := (xs.map fun p => p.length + 3).sum
theorem join_le (xs : List (List UInt8)) (sep : List UInt8) (h : sep.length = 3) : (Lib.join xs sep).length ≤ plen xs := by
  have tail : ∀ r : List (List UInt8), (Lib.joinTail sep r).length = plen r := by
    intro r
    induction r with
    | nil => rfl
    | cons y ys ih =>
      have : Lib.joinTail sep (y :: ys) = sep ++ y ++ Lib.joinTail sep ys := by simp [Lib.joinTail]
      rw [this]
      simp only [List.length_append, ih, h, plen, List.map_cons, List.sum_cons]
      omega
  cases xs with
  | nil => simp [Lib.join_nil]
  | cons x r =>
    rw [Lib.join_cons, List.length_append, tail]
    simp only [plen, List.map_cons, List.sum_cons]
    omega
theorem txt_len : ∀ x, (txt x).length + 5 ≤ 1005 * wgt x := by
  intro x
  induction x using S24.ind with
  | h x ih =>
    have hwe := wgt_eq x
    rw [txt_eq]
    have h1 : x.f1.size ≤ 200 * (x.f1.size / 200) + 199 := by omega
    have h2 : x.f2.size ≤ 200 * (x.f2.size / 200) + 199 := by omega
    split
    · rw [← ba_size]; omega
    · split
      · simp only [List.length_append, ← ba_size, List.length_cons, List.length_nil]; omega
      · have key : ∀ (l : List S24), (∀ y ∈ l, y ∈ x.f3) → plen (l.map piece) ≤ 1005 * wgt.wgtL l := by
          intro l
          induction l with
          | nil => intro _; simp [plen, wgt.wgtL]
          | cons y ys ihl =>
            intro hm
            have h3 := ih y (hm y (by simp))
            have h4 := ihl (fun z hz => hm z (by simp [hz]))
            rw [List.map_cons, wgt.wgtL]
            have h5 : (piece y).length ≤ (txt y).length + 2 := by
              unfold piece
              split
              · omega
              · simp
            simp only [plen, List.map_cons, List.sum_cons] at h4 ⊢
            omega
        have h6 := key x.f3 (fun _ h => h)
        have h7 := join_le (x.f3.map piece) (sgn x.f0) (sgn_len _)
        omega
theorem plen_take (l : List S24) (i : Nat) (hw : wgt.wgtL l ≤ 1000000) : plen ((l.take i).map piece) ≤ 1005000000 := by
  have key : ∀ l : List S24, plen (l.map piece) ≤ 1005 * wgt.wgtL l := by
    intro l
    induction l with
    | nil => simp [plen, wgt.wgtL]
    | cons y ys ihl =>
      have h3 := txt_len y
      rw [List.map_cons, wgt.wgtL]
      have h5 : (piece y).length ≤ (txt y).length + 2 := by
        unfold piece
        split
        · omega
        · simp
      simp only [plen, List.map_cons, List.sum_cons] at ihl ⊢
      omega
  have h1 : ∀ (l : List S24) (i : Nat), wgt.wgtL (l.take i) ≤ wgt.wgtL l := by
    intro l
    induction l with
    | nil => intro i; simp
    | cons y ys ihl =>
      intro i
      cases i with
      | zero => simp [wgt.wgtL]
      | succ i => rw [List.take_succ_cons, wgt.wgtL, wgt.wgtL]; have := ihl i; omega
  have h2 := key (l.take i)
  have h3 := h1 l i
  omega
theorem form_kind {x : S24} (h : formB x = true) : x.f0 = 1 ∨ x.f0 = 2 ∨ x.f0 = 3 ∨ x.f0 = 4 ∨ x.f0 = 5 := by
  rw [formB_eq] at h
  simp only [Bool.and_eq_true, kidsB] at h
  obtain ⟨_, h2, _⟩ := h
  split at h2
  · omega
  · split at h2
    · omega
    · simp only [Bool.and_eq_true, beq_iff_eq] at h2; omega
theorem form_kid {x y : S24} (h : formB x = true) (hy : y ∈ x.f3) : formB y = true := by
  rw [formB_eq] at h
  simp only [Bool.and_eq_true, List.all_eq_true] at h
  exact h.2.2 y hy
theorem sign_f (a : Int) (b c : ByteArray) (l : List S24) (h : a = 3 ∨ a = 4 ∨ a = 5) : ∃ s, expr_part_sign.f a b c l = some s ∧ s.data.toList = sgn a := by
  unfold expr_part_sign.f sgn
  rcases h with rfl | rfl | rfl
  · exact ⟨sgU, rfl, rfl⟩
  · exact ⟨sgI, rfl, rfl⟩
  · exact ⟨sgX, rfl, rfl⟩
theorem arrow_text (x : S24) (hw : wgt x ≤ 1000000) (h : x.f0 = 2) : x.f1.size + 2 ≤ 9223372036854775807 ∧ (x.f1 ++ (⟨#[45, 62]⟩ : ByteArray)).size + x.f2.size ≤ 9223372036854775807 ∧ (x.f1 ++ (⟨#[45, 62]⟩ : ByteArray)) ++ x.f2 = ⟨(txt x).toArray⟩ := by
  have hwe := wgt_eq x
  have h1 : x.f1.size ≤ 200 * (x.f1.size / 200) + 199 := by omega
  have h2 : x.f2.size ≤ 200 * (x.f2.size / 200) + 199 := by omega
  refine ⟨by omega, ?_, ?_⟩
  · rw [ByteArray.size_append, show (⟨#[45, 62]⟩ : ByteArray).size = 2 from rfl]; omega
  · apply ba_ext
    rw [ba_append, ba_append, txt_eq, if_neg (by omega), if_pos h]
theorem exprtext_ev : ∀ x, formB x = true → wgt x ≤ 1000000 → Ev (fun k => expr_text.f k x.f0 x.f1 x.f2 x.f3) ⟨(txt x).toArray⟩ := by
  intro x
  induction x using S24.ind with
  | h x ih =>
    intro hf hw
    have hwe := wgt_eq x
    have hlen := wgtL_len x.f3
    by_cases h1 : x.f0 = 1
    · refine Ev.step (f := fun _ => some x.f2) (fun k => by rw [expr_text.f, if_pos h1]) ?_
      rw [show (⟨(txt x).toArray⟩ : ByteArray) = x.f2 from ba_ext (by rw [txt_eq, if_pos h1])]
      exact Ev.now _
    by_cases h2 : x.f0 = 2
    · obtain ⟨a1, a2, a3⟩ := arrow_text x hw h2
      refine Ev.step (f := fun _ => some ((x.f1 ++ (⟨#[45, 62]⟩ : ByteArray)) ++ x.f2)) (fun k => by rw [expr_text.f, if_neg h1, if_pos h2, if_pos a1, if_pos a2]) ?_
      rw [a3]
      exact Ev.now _
    · have hk : x.f0 = 3 ∨ x.f0 = 4 ∨ x.f0 = 5 := by have := form_kind hf; omega
      obtain ⟨s, hs1, hs2⟩ := sign_f x.f0 x.f1 x.f2 x.f3 hk
      have htx : txt x = Lib.join (x.f3.map piece) (sgn x.f0) := by rw [txt_eq, if_neg h1, if_neg h2]
      have key : ∀ (r i : Nat), x.f3.length - i = r → i ≤ x.f3.length → ∀ acc : List ByteArray, acc.map (·.data.toList) = (x.f3.take i).map piece → Ev (fun k => expr_text.l0 k acc x.f3 (x.f3.length : Int) (i : Int) x.f0 x.f1 x.f2 x.f3) ⟨(txt x).toArray⟩ := by
        intro r
        induction r with
        | zero =>
          intro i hr hi acc hacc
          rw [List.take_of_length_le (by omega)] at hacc
          have hj : joinL acc s = txt x := by unfold joinL; rw [hacc, hs2, htx]
          have hal : acc.length = x.f3.length := by have := congrArg List.length hacc; simpa using this
          have htl := txt_len x
          refine Ev.step (f := fun _ => some ⟨(txt x).toArray⟩) (fun k => ?_) (Ev.now _)
          rw [expr_text.l0, if_neg (by omega), hs1]
          simp only [Option.bind_some, strings_Join.f]
          rw [if_pos ⟨by omega, by rw [hj]; omega⟩, hj]
          rfl
        | succ r ihr =>
          intro i hr hi acc hacc
          have hlt : i < x.f3.length := by omega
          have hm : x.f3[i] ∈ x.f3 := List.getElem_mem hlt
          have hwm := wgtL_mem hm
          have hal : acc.length = i := by have := congrArg List.length hacc; simp at this; omega
          have htl := txt_len x.f3[i]
          have hkid := ih _ hm (form_kid hf hm) (by omega)
          have hts : (⟨(txt x.f3[i]).toArray⟩ : ByteArray).size = (txt x.f3[i]).length := by rw [ba_size]
          refine Ev.step (fun k => by rw [expr_text.l0, if_pos (by omega), if_pos (by omega), if_pos (by omega), rdT hlt, wrap_ok (x := (i : Int) + 1) (by omega) (by omega)]) (Ev.bind hkid ?_)
          simp only [leaf_f, Option.bind_some]
          cases hl : leafk x.f3[i].f0 with
          | true =>
            simp only [if_true]
            refine Ev.congr (fun k => if_pos (by omega)) (ihr (i + 1) (by omega) (by omega) (acc ++ [⟨(txt x.f3[i]).toArray⟩]) ?_)
            rw [List.map_append, hacc, List.take_succ_eq_append_getElem hlt, List.map_append]
            simp [piece, hl]
          | false =>
            simp only [Bool.false_eq_true, if_false]
            refine Ev.congr (fun k => by rw [if_pos (by omega), if_pos (by rw [ByteArray.size_append, hts, show (⟨#[40]⟩ : ByteArray).size = 1 from rfl]; omega), if_pos (by omega)]; rfl) (ihr (i + 1) (by omega) (by omega) (acc ++ [((⟨#[40]⟩ : ByteArray) ++ ⟨(txt x.f3[i]).toArray⟩) ++ (⟨#[41]⟩ : ByteArray)]) ?_)
            rw [List.map_append, hacc, List.take_succ_eq_append_getElem hlt, List.map_append]
            simp only [List.map_cons, List.map_nil, ba_append, piece, hl]
            simp
      have := key x.f3.length 0 (by omega) (by omega) [] (by simp)
      refine Ev.step (f := fun k => expr_text.l0 k [] x.f3 (x.f3.length : Int) ((0 : Nat) : Int) x.f0 x.f1 x.f2 x.f3) (fun k => ?_) this
      rw [expr_text.f, if_neg h1, if_neg h2]
      rfl
theorem refText_ev : ∀ x, formB x = true → wgt x ≤ 1000000 → Ev (fun k => vestryref10_Text.f k x.f0 x.f1 x.f2 x.f3) ⟨(txt x).toArray⟩ := by
  intro x
  induction x using S24.ind with
  | h x ih =>
    intro hf hw
    have hwe := wgt_eq x
    have hlen := wgtL_len x.f3
    by_cases h1 : x.f0 = 1
    · refine Ev.step (f := fun _ => some x.f2) (fun k => by rw [vestryref10_Text.f, if_pos h1]) ?_
      rw [show (⟨(txt x).toArray⟩ : ByteArray) = x.f2 from ba_ext (by rw [txt_eq, if_pos h1])]
      exact Ev.now _
    by_cases h2 : x.f0 = 2
    · obtain ⟨a1, a2, a3⟩ := arrow_text x hw h2
      refine Ev.step (f := fun _ => some ((x.f1 ++ (⟨#[45, 62]⟩ : ByteArray)) ++ x.f2)) (fun k => by rw [vestryref10_Text.f, if_neg h1, if_pos h2, if_pos a1, if_pos a2]) ?_
      rw [a3]
      exact Ev.now _
    · have hk : x.f0 = 3 ∨ x.f0 = 4 ∨ x.f0 = 5 := by have := form_kind hf; omega
      have htx : txt x = Lib.join (x.f3.map piece) (sgn x.f0) := by rw [txt_eq, if_neg h1, if_neg h2]
      have key : ∀ (r i : Nat), x.f3.length - i = r → i ≤ x.f3.length → ∀ acc : ByteArray, acc.data.toList = Lib.join ((x.f3.take i).map piece) (sgn x.f0) → Ev (fun k => vestryref10_Text.l0 k acc (i : Int) x.f0 x.f1 x.f2 x.f3) ⟨(txt x).toArray⟩ := by
        intro r
        induction r with
        | zero =>
          intro i hr hi acc hacc
          rw [List.take_of_length_le (by omega)] at hacc
          rw [show (⟨(txt x).toArray⟩ : ByteArray) = acc from ba_ext (by rw [hacc, htx])]
          exact Ev.step (f := fun _ => some acc) (fun k => by rw [vestryref10_Text.l0, if_neg (by omega)]) (Ev.now _)
        | succ r ihr =>
          intro i hr hi acc hacc
          have hlt : i < x.f3.length := by omega
          have hm : x.f3[i] ∈ x.f3 := List.getElem_mem hlt
          have hwm := wgtL_mem hm
          have htl := txt_len x.f3[i]
          have hkid := ih _ hm (form_kid hf hm) (by omega)
          have hts : (⟨(txt x.f3[i]).toArray⟩ : ByteArray).size = (txt x.f3[i]).length := by rw [ba_size]
          have hal : acc.size ≤ 1005000000 := by
            rw [ba_size, hacc]
            have h5 := join_le ((x.f3.take i).map piece) (sgn x.f0) (sgn_len _)
            have h6 := plen_take x.f3 i (by omega)
            omega
          have hput : ∀ b : ByteArray, b.size ≤ 1005000003 → Lib.join ((x.f3.take (i + 1)).map piece) (sgn x.f0) = b.data.toList ++ piece x.f3[i] → Ev (fun k => vestryref10_Text.j1 k b (i : Int) x.f0 x.f1 x.f2 x.f3) ⟨(txt x).toArray⟩ := by
            intro b hb hjoin
            refine Ev.step (fun k => by rw [vestryref10_Text.j1, if_pos (by omega), if_pos (by omega), rdT hlt, wrap_ok (x := (i : Int) + 1) (by omega) (by omega)]) ?_
            have hlf : vestryref10_Leaf.f x.f3[i].f0 x.f3[i].f1 x.f3[i].f2 x.f3[i].f3 = some (leafk x.f3[i].f0) := by
              have hkk := form_kind (form_kid hf hm)
              unfold vestryref10_Leaf.f leafk
              rcases hkk with e | e | e | e | e <;> rw [e] <;> rfl
            rw [hlf]
            simp only [Option.bind_some]
            cases hl : leafk x.f3[i].f0 with
            | true =>
              simp only [if_true]
              refine Ev.bind hkid (Ev.congr (fun k => if_pos (by omega)) (ihr (i + 1) (by omega) (by omega) (b ++ ⟨(txt x.f3[i]).toArray⟩) ?_))
              rw [hjoin, ba_append]
              simp [piece, hl]
            | false =>
              simp only [Bool.false_eq_true, if_false]
              refine Ev.congr (fun k => if_pos (by omega)) (Ev.bind hkid (Ev.congr (fun k => by rw [if_pos (by rw [ByteArray.size_append, hts, show (⟨#[40]⟩ : ByteArray).size = 1 from rfl]; omega), if_pos (by rw [ByteArray.size_append, ByteArray.size_append, hts, show (⟨#[40]⟩ : ByteArray).size = 1 from rfl]; omega)]; rfl) (ihr (i + 1) (by omega) (by omega) (((b ++ (⟨#[40]⟩ : ByteArray)) ++ ⟨(txt x.f3[i]).toArray⟩) ++ (⟨#[41]⟩ : ByteArray)) ?_)))
              rw [hjoin, ba_append, ba_append, ba_append]
              simp [piece, hl]
          have htk : (x.f3.take (i + 1)).map piece = (x.f3.take i).map piece ++ [piece x.f3[i]] := by rw [List.take_succ_eq_append_getElem hlt, List.map_append]; rfl
          rcases Nat.eq_zero_or_pos i with hi0 | hi0
          · refine Ev.step (fun k => by rw [vestryref10_Text.l0, if_pos (by omega), if_neg (by omega)]) (hput acc (by omega) ?_)
            rw [htk, join_snoc, hacc]
            subst hi0
            simp [Lib.join_nil]
          · have hne : (x.f3.take i).map piece ≠ [] := by
              intro e
              have := congrArg List.length e
              rw [List.length_map, List.length_take, List.length_nil] at this
              omega
            have hw3 : wrap64 (x.f0 - 3) = x.f0 - 3 := wrap_ok (by omega) (by omega)
            have hsg : ∃ c : ByteArray, rdOf ByteArray.empty ([(⟨#[43]⟩ : ByteArray), (⟨#[38]⟩ : ByteArray), (⟨#[45]⟩ : ByteArray)] : List ByteArray) (wrap64 (x.f0 - 3)) = c ∧ c.size = 1 ∧ sgn x.f0 = [32] ++ c.data.toList ++ [32] := by
              rcases hk with e | e | e
              · exact ⟨⟨#[43]⟩, by rw [hw3, e]; rfl, rfl, by rw [e]; rfl⟩
              · exact ⟨⟨#[38]⟩, by rw [hw3, e]; rfl, rfl, by rw [e]; rfl⟩
              · exact ⟨⟨#[45]⟩, by rw [hw3, e]; rfl, rfl, by rw [e]; rfl⟩
            obtain ⟨c, hc1, hc2, hc3⟩ := hsg
            refine Ev.step (f := fun k => vestryref10_Text.j1 k (((acc ++ (⟨#[32]⟩ : ByteArray)) ++ c) ++ (⟨#[32]⟩ : ByteArray)) (i : Int) x.f0 x.f1 x.f2 x.f3) (fun k => ?_) (hput _ ?_ ?_)
            · rw [vestryref10_Text.l0, if_pos (by omega), if_pos (by omega), if_pos (by omega)]
              simp only [Option.bind_some, hc1]
              rw [if_pos (by rw [hw3]; omega), if_pos (by rw [hw3]; show x.f0 - 3 < 3; omega), if_pos (by rw [ByteArray.size_append, hc2, show (⟨#[32]⟩ : ByteArray).size = 1 from rfl]; omega), if_pos (by rw [ByteArray.size_append, ByteArray.size_append, hc2, show (⟨#[32]⟩ : ByteArray).size = 1 from rfl]; omega)]
            · rw [ByteArray.size_append, ByteArray.size_append, ByteArray.size_append, hc2, show (⟨#[32]⟩ : ByteArray).size = 1 from rfl]
              omega
            · rw [htk, join_snoc, if_neg hne, ← hacc, ba_append, ba_append, ba_append, hc3]
              simp
      have := key x.f3.length 0 (by omega) (by omega) ⟨#[]⟩ (by simp [Lib.join_nil])
      refine Ev.step (f := fun k => vestryref10_Text.l0 k ⟨#[]⟩ ((0 : Nat) : Int) x.f0 x.f1 x.f2 x.f3) (fun k => ?_) this
      rw [vestryref10_Text.f, if_neg h1, if_neg h2]
      rfl
theorem right_form {x : S24} (h : rightB x = true) : formB x = true := by
  unfold rightB at h
  simp only [Bool.and_eq_true] at h
  exact h.2.1
theorem exprText_ev (x : S24) (hw : wgt x ≤ 1000000) : Ev (fun k => expr_Text.f k x.f0 x.f1 x.f2 x.f3) (if rightB x = true then ⟨(txt x).toArray⟩ else ⟨#[]⟩) := by
  unfold expr_Text.f
  refine Ev.bind (exprRight_ev x hw) ?_
  by_cases h : rightB x = true
  · simp only [h, if_true]
    exact Ev.bind (exprtext_ev x (right_form h) hw) (Ev.now _)
  · simp only [h, if_false]
    exact Ev.now _
end Go.Proofs.YtigghbfcflnoeaaDoor.Y
end
section
namespace Go.Proofs.YtigghbfcflnoeaaDoor.Y
open Go.RowKit Go.Proofs.YtigghbfcflnoeaaDoorW.PrintWords Go.Proofs.YtigghbfcflnoeaaDoorW.PrintLast Go.Proofs.YtigghbfcflnoeaaDoorW.PrintMore
attribute [local go_sem] max2_int min2_int max_two min_two max_three min_three max_four min_four
set_option linter.unusedVariables false
set_option linter.unusedSimpArgs false
theorem Ev.eq_of {α : Type} {g : Nat → Option α} {r t : α} (h : Ev g r) (hm : ∀ k, LeO (g k) (g (k + 1))) {k : Nat} (hk : g k = some t) : t = r := by
  obtain ⟨K, h⟩ := h
  have h1 := at_rounds hm (Nat.le_max_left k K) hk
  have h2 := h (max k K) (Nat.le_max_right _ _)
  rw [h1] at h2
  exact Option.some.inj h2
theorem clone_ev : ∀ x : S24, wgt x ≤ 1000000 → Ev (fun k => map60.f k x.f0 x.f1 x.f2 x.f3) (x.f0, x.f1, x.f2, x.f3) := by
  intro x
  induction x using S24.ind with
  | h x ih =>
    intro hw
    have hwe := wgt_eq x
    have hlen := wgtL_len x.f3
    have key : ∀ (r i : Nat), x.f3.length - i = r → i ≤ x.f3.length → Ev (fun k => map60.l0 k (x.f3.take i) x.f3 (x.f3.length : Int) (i : Int) x.f0 x.f1 x.f2 x.f3) (x.f0, x.f1, x.f2, x.f3) := by
      intro r
      induction r with
      | zero =>
        intro i hr hi
        rw [List.take_of_length_le (by omega)]
        refine Ev.step (f := fun _ => some (x.f0, x.f1, x.f2, x.f3)) (fun k => ?_) (Ev.now _)
        rw [map60.l0, if_neg (by omega)]
        rfl
      | succ r ihr =>
        intro i hr hi
        have hlt : i < x.f3.length := by omega
        have hm : x.f3[i] ∈ x.f3 := List.getElem_mem hlt
        have hwm := wgtL_mem hm
        have hnext := ihr (i + 1) (by omega) (by omega)
        refine Ev.step (fun k => by rw [map60.l0, if_pos (by omega), if_pos (by omega), if_pos (by omega), rdT hlt, wrap_ok (x := (i : Int) + 1) (by omega) (by omega)]) (Ev.bind (ih _ hm (by omega)) ?_)
        have ht : (x.f3.take i).length < 2199023255552 := by rw [List.length_take]; omega
        simp only [ht, if_true]
        rw [List.take_succ_eq_append_getElem hlt] at hnext
        rw [S24.eta]
        exact hnext
    have := key x.f3.length 0 (by omega) (by omega)
    rw [List.take_zero] at this
    exact Ev.step (f := fun k => map60.l0 k [] x.f3 (x.f3.length : Int) ((0 : Nat) : Int) x.f0 x.f1 x.f2 x.f3) (fun k => by rw [map60.f]; rfl) this
theorem Clone_ev (x : S24) (hw : wgt x ≤ 1000000) : Ev (fun k => expr_Clone.f k x.f0 x.f1 x.f2 x.f3) (x.f0, x.f1, x.f2, x.f3) := by
  unfold expr_Clone.f
  exact Ev.bind (clone_ev x hw) (Ev.now _)
abbrev bE : ByteArray := ⟨#[]⟩
abbrev awE1 : List S24 := [⟨1, bE, ⟨#[98]⟩, []⟩, ⟨2, ⟨#[99]⟩, ⟨#[100]⟩, []⟩]
abbrev awE : S24 := ⟨3, bE, bE, [⟨1, bE, ⟨#[97]⟩, []⟩, ⟨5, bE, bE, awE1⟩]⟩
abbrev awZ : S24 := ⟨0, bE, bE, []⟩
theorem awE_wgt : wgt awE ≤ 1000000 := by simp [wgt, wgt.wgtL, ba_size]
theorem awZ_wgt : wgt awZ ≤ 1000000 := by simp [wgt, wgt.wgtL, ba_size]
theorem isN (a : UInt8) (h : smallS.data.toList.contains a = true) (h2 : inNameS.data.toList.contains a = true) (hr : resv ⟨#[a]⟩ = false) : nameIs ⟨#[a]⟩ = true := by
  have e1 : (⟨#[a]⟩ : ByteArray).toList = [a] := by rw [Lib.toList_data]
  have e2 : (⟨#[a]⟩ : ByteArray).size = 1 := rfl
  have e3 : ((⟨#[a]⟩ : ByteArray).extract 0 1).data.toList = [a] := by rw [Lib.extract_data]; rfl
  simp only [nameIs, e1, e2, e3, hr, hasL, List.all_cons, List.all_nil, h, h2]
  rfl
theorem resv1 (a : UInt8) : resv ⟨#[a]⟩ = false := by
  simp only [resv, Lib.toList_data, resD, resR, resP]
  simp
theorem awE_right : rightB awE = true := by
  have n1 := isN 97 (by rw [small_iff]; rfl) (by rw [inName_iff]; rfl) (resv1 _)
  have n2 := isN 98 (by rw [small_iff]; rfl) (by rw [inName_iff]; rfl) (resv1 _)
  have n3 := isN 99 (by rw [small_iff]; rfl) (by rw [inName_iff]; rfl) (resv1 _)
  have n4 := isN 100 (by rw [small_iff]; rfl) (by rw [inName_iff]; rfl) (resv1 _)
  have e : (bE : ByteArray).toList = [] := by rw [Lib.toList_data]
  simp [rightB, depthE, depthE.depthL, formB, formB.formL, namesB, kidsB, n1, n2, n3, n4, e, leavesB, leavesB.leavesL, leafk]
theorem awZ_right : rightB awZ = false := by
  simp [rightB, formB, formB.formL, kidsB]
theorem awE_txt : txt awE = [97, 32, 43, 32, 40, 98, 32, 45, 32, 99, 45, 62, 100, 41] := by
  simp [txt, txt.txtL, leafk, sgn, Lib.join, List.intercalate]
theorem awE_depth : depthE awE = 3 := by simp [depthE, depthE.depthL]
theorem awk_text {k : Nat} {y4 y1 : List S24} {t : ByteArray} (h4 : y4 = [⟨1, bE, ⟨#[97]⟩, []⟩, ⟨5, bE, bE, y1⟩]) (h1 : y1 = awE1) (h : expr_Text.f k 3 bE bE y4 = some t) : t.toList = [97, 32, 43, 32, 40, 98, 32, 45, 32, 99, 45, 62, 100, 41] := by
  subst h1 h4
  have e := Ev.eq_of (exprText_ev awE awE_wgt) (fun k => expr_Text.mono _ _ _ _ k) h
  rw [if_pos awE_right] at e
  rw [e, Lib.toList_data]
  simpa using awE_txt
theorem awk_right {k : Nat} {y4 y1 : List S24} {t : Bool} (h4 : y4 = [⟨1, bE, ⟨#[97]⟩, []⟩, ⟨5, bE, bE, y1⟩]) (h1 : y1 = awE1) (h : expr_Right.f k 3 bE bE y4 = some t) : t = true := by
  subst h1 h4
  exact (Ev.eq_of (exprRight_ev awE awE_wgt) (fun k => expr_Right.mono _ _ _ _ k) h).trans awE_right
theorem awk_depth {k : Nat} {y4 y1 : List S24} {t : Int} (h4 : y4 = [⟨1, bE, ⟨#[97]⟩, []⟩, ⟨5, bE, bE, y1⟩]) (h1 : y1 = awE1) (h : expr_Depth.f k 3 bE bE y4 = some t) : t = 3 := by
  subst h1 h4
  have e := Ev.eq_of (exprDepth_ev awE (by have := awE_wgt; omega)) (fun k => expr_Depth.mono _ _ _ _ k) h
  rw [e, awE_depth]
  rfl
theorem awk_right0 {k : Nat} {t : Bool} (h : expr_Right.f k 0 bE bE [] = some t) : ¬ t = true := by
  have e := Ev.eq_of (exprRight_ev awZ awZ_wgt) (fun k => expr_Right.mono _ _ _ _ k) h
  rw [e, awZ_right]
  simp
theorem awk_text0 {k : Nat} {t : ByteArray} (h : expr_Text.f k 0 bE bE [] = some t) : t.toList = [] := by
  have e := Ev.eq_of (exprText_ev awZ awZ_wgt) (fun k => expr_Text.mono _ _ _ _ k) h
  rw [if_neg (by rw [awZ_right]; simp)] at e
  rw [e, Lib.toList_data]
theorem cmpS_refl (a : ByteArray) : cmpS a a = 0 := by
  have : ∀ l : List UInt8, Op.bytesLess l l = false := by
    intro l
    induction l with
    | nil => rfl
    | cons x xs ih =>
      show (decide (x < x) || (x == x && Op.bytesLess xs xs)) = false
      simp [ih]
  unfold cmpS
  rw [this, if_neg (by simp), if_pos rfl]
theorem cmpI_refl (a : Int) : cmpI a a = 0 := by unfold cmpI; rw [if_neg (by omega), if_neg (by omega)]
theorem cmpE_refl : ∀ x, cmpE x x = 0 := by
  intro x
  induction x using S24.ind with
  | h x ih =>
    rw [cmpE_eq, cmpI_refl, cmpS_refl, cmpS_refl]
    simp only [ne_eq, not_true_eq_false, if_false]
    have key : ∀ l : List S24, (∀ y ∈ l, y ∈ x.f3) → cmpE.cmpL l l = 0 := by
      intro l
      induction l with
      | nil => intro _; rw [cmpE.cmpL]
      | cons y ys ihl => intro hm; rw [cmpE.cmpL, ih y (hm y (by simp)), if_neg (by simp)]; exact ihl (fun z hz => hm z (by simp [hz]))
    exact key x.f3 (fun _ h => h)
theorem awk_same {k : Nat} {y4 y1 : List S24} {a : Int} {b c : ByteArray} {l : List S24} {t : Bool} (h4 : y4 = [⟨1, bE, ⟨#[97]⟩, []⟩, ⟨5, bE, bE, y1⟩]) (h1 : y1 = awE1) (hc : expr_Clone.f k 3 bE bE y4 = some (a, b, c, l))
    (h : expr_Same.f 3 bE bE y4 a b c l = some t) : t = true := by
  subst h1 h4
  have e := Ev.eq_of (Clone_ev awE awE_wgt) (fun k => expr_Clone.mono _ _ _ _ k) hc
  simp only [Prod.mk.injEq] at e
  obtain ⟨rfl, rfl, rfl, rfl⟩ := e
  have h2 := Option.some.inj h
  rw [cmpE_refl] at h2
  exact h2.symm
theorem awk_leaves {a : Int} {b c : ByteArray} {l : List S24} {t : Bool} (h : expr_Leaves.f a b c l = some t) : t = true := (Option.some.inj h).symm
theorem awk_len {y4 y1 : List S24} (h4 : y4 = [⟨1, bE, ⟨#[97]⟩, []⟩, ⟨5, bE, bE, y1⟩]) : 0 < (y4.length : Int) := by subst h4; simp
theorem ne_nilF (p : Option Addr) (w' : World) : Sem.run Tryd.prog (binOp BinOp.neq 34 (Value.func (Fn.func 55) #[] #[Value.pointer p]) Value.nilFunc) w' = .ok (.bool true) w' := by
  kernel_rfl
theorem at_again {w : World} {ad : Addr} {n c : Nat} {xs : List S24} {A : Option Addr} (h : Kd.C k24 w (some ad) n xs) (h1 : 0 < (n : Int))
    (hv : w.cell? ⟨ad.block, ad.off + 3, none⟩ = some (.slice A ((rd_T24 xs 0).f3).length c)) : k24.C w A ((rd_T24 xs 0).f3).length ((rd_T24 xs 0).f3) := by
  obtain ⟨ad', A3, c3, e, g0, g1, g2, g3, l, i⟩ := at_T24 h 0 (Int.le_refl 0) h1
  cases e
  rw [show ((0 : Int)).toNat = 0 from rfl, show 0 * 4 = 0 from rfl, Addr.add_zero'] at g3
  have := Option.some.inj (g3.symm.trans hv)
  injection this with e1 e2 e3
  subst e1
  exact i
end Go.Proofs.YtigghbfcflnoeaaDoor.Y
end
section
namespace Go.Proofs.YtigghbfcflnoeaaDoor.Y
open Go.RowKit Go.Proofs.YtigghbfcflnoeaaDoorW.PrintWords Go.Proofs.YtigghbfcflnoeaaDoorW.PrintLast Go.Proofs.YtigghbfcflnoeaaDoorW.PrintMore
attribute [local go_sem] max2_int min2_int max_two min_two max_three min_three max_four min_four
set_option linter.unusedVariables false
set_option linter.unusedSimpArgs false
def vestrylaw10_awake.f (k : Nat)  : Option (Bool) := (some (([(⟨1, (⟨#[]⟩ : ByteArray), (⟨#[97]⟩ : ByteArray), ([] : List (S24))⟩ : S24), (⟨5, (⟨#[]⟩ : ByteArray), (⟨#[]⟩ : ByteArray), (([(⟨1, (⟨#[]⟩ : ByteArray), (⟨#[98]⟩ : ByteArray), ([] : List (S24))⟩ : S24), (⟨2, (⟨#[99]⟩ : ByteArray), (⟨#[100]⟩ : ByteArray), ([] : List (S24))⟩ : S24)] : List (S24)))⟩ : S24)] : List (S24)) : List (S24))).bind fun y104 => ((expr_Text.f k 3 (⟨#[]⟩ : ByteArray) (⟨#[]⟩ : ByteArray) y104).bind fun t108 => (if t108.toList = ([97, 32, 43, 32, 40, 98, 32, 45, 32, 99, 45, 62, 100, 41] : List UInt8) then ((expr_Right.f k 3 (⟨#[]⟩ : ByteArray) (⟨#[]⟩ : ByteArray) y104).bind fun t109 => (if t109 = true then ((expr_Depth.f k 3 (⟨#[]⟩ : ByteArray) (⟨#[]⟩ : ByteArray) y104).bind fun t110 => (if t110 = 3 then ((expr_Right.f k 0 (⟨#[]⟩ : ByteArray) (⟨#[]⟩ : ByteArray) ([] : List (S24))).bind fun t111 => (if t111 = true then (some false) else ((expr_Text.f k 0 (⟨#[]⟩ : ByteArray) (⟨#[]⟩ : ByteArray) ([] : List (S24))).bind fun t112 => (if t112.toList = ([] : List UInt8) then ((expr_Clone.f k 3 (⟨#[]⟩ : ByteArray) (⟨#[]⟩ : ByteArray) y104).bind fun bt113 => ((expr_Same.f 3 (⟨#[]⟩ : ByteArray) (⟨#[]⟩ : ByteArray) y104 bt113.1 bt113.2.1 bt113.2.2.1 bt113.2.2.2).bind fun t119 => (if t119 = true then ((expr_Leaves.f 3 (⟨#[]⟩ : ByteArray) (⟨#[]⟩ : ByteArray) y104).bind fun t120 => (if t120 = true then (if 0 < (y104.length : Int) then ((expr_Compare.f 3 (⟨#[]⟩ : ByteArray) (⟨#[]⟩ : ByteArray) y104 ((rd_T24 y104 0).f0) ((rd_T24 y104 0).f1) ((rd_T24 y104 0).f2) ((rd_T24 y104 0).f3)).bind fun t122 => (some (t122 == 1))) else (none)) else (some false))) else (some false)))) else (some false))))) else (some false))) else (some false))) else (some false)))
theorem vestrylaw10_awake.mono : ∀ k, LeO (vestrylaw10_awake.f k ) (vestrylaw10_awake.f (k + 1) ) := by
  intro  k
  unfold vestrylaw10_awake.f
  repeat' first
      | (with_reducible exact expr_Clone.mono _ _ _ _ _)
      | (with_reducible exact expr_Depth.mono _ _ _ _ _)
      | (with_reducible exact expr_Right.mono _ _ _ _ _)
      | (with_reducible exact expr_Text.mono _ _ _ _ _)
      | (with_reducible exact LeO.refl _)
      | (with_reducible exact LeO.none _)
      | (with_reducible refine LeO.ite ?_ ?_)
      | (with_reducible refine LeO.bind ?_ (fun _ => ?_))
      | exact expr_Clone.mono _ _ _ _ _
      | exact expr_Depth.mono _ _ _ _ _
      | exact expr_Right.mono _ _ _ _ _
      | exact expr_Text.mono _ _ _ _ _
      | exact LeO.none _
      | refine LeO.ite ?_ ?_
      | refine LeO.bind ?_ (fun _ => ?_)
attribute [local go_sem] ne_nilF
def vestrylaw10_awake.T2 : Bool × List (List Nat × List Nat) := (true, [([], []), ([0], [0]), ([1], [1]), ([2, 1], [2]), ([3], [3]), ([4, 3, 3], [3, 4]), ([3, 5], [3, 5]), ([6, 5], [6]), ([7], [7]), ([8, 7, 7], [7, 8]), ([9, 7], [7, 9]), ([7, 10], [7, 10]), ([11, 9], [11]), ([12], [12]), ([13, 12, 12], [12, 13]), ([14, 12], [12, 14]), ([12, 15], [12, 15]), ([16, 14], [16]), ([17], [17]), ([18, 17, 17], [17, 18]), ([19, 17], [17, 19]), ([17, 20], [17, 20]), ([21, 19], [21]), ([22], [22]), ([22], [22]), ([24, 22, 22], [22, 24]), ([23, 25, 25, 22], [22, 23, 25]), ([22, 26], [22, 26]), ([27, 26], [27]), ([28], [28]), ([29, 28, 28], [28, 29]), ([30, 28], [28, 30]), ([28, 31], [28, 31]), ([32, 30], [32]), ([33], [33]), ([33], [33]), ([35, 33], [33, 35]), ([36, 33], [33, 36]), ([37, 33], [33, 37]), ([34, 38, 33, 33], [33, 34, 38]), ([39, 33], [33, 39]), ([33, 40], [33, 40]), ([41, 39, 0, 1, 2, 3, 4, 5, 6, 7, 8, 9, 10, 11, 12, 13, 14, 15, 16, 17, 18, 19, 20, 21, 22, 23, 24, 25, 26, 27, 28, 29, 30, 31, 32, 33, 34, 35, 36, 37, 38, 39, 40, 41], [41])])
def vestrylaw10_awake.B2 : List Nat := [0, 1, 3, 7, 15, 31, 63, 127, 255, 511, 1023, 2047, 4095, 8191, 16383, 32767, 65535, 131071, 262143, 524287, 1048575, 2097151, 4194303, 8388607, 8388607, 25165823, 67108863, 134217727, 268435455, 536870911, 1073741823, 2147483647, 4294967295, 8589934591, 17179869183, 17179869183, 51539607551, 120259084287, 257698037759, 549755813887, 1099511627775, 2199023255551, 4398046511103]
theorem vestrylaw10_awake.tab2 : rtab .any (opsOf Tryd.f13 2) = vestrylaw10_awake.T2 := by kernel_rfl
theorem vestrylaw10_awake.bits2 : waitsOk vestrylaw10_awake.T2.2 vestrylaw10_awake.B2 = true := by kernel_rfl
set_option maxHeartbeats 8000000 in
set_option maxRecDepth 100000 in
theorem vestrylaw10_awake.calls (k : Nat)  (r : Bool) (w : World) (hL : Laid w) (h : vestrylaw10_awake.f k  = some r) :
    Calls Tryd.prog 13 #[] w fun e w' => e = .returned (.bool r) ∧ Below w.heap.size w w' := by
  have HL := Aside0.mk hL
  clear hL
  have hu24 := Tryd.underlying24
  have HB := Aside0.mk (Below.refl w.heap.size w)
  have H : ((some (([(⟨1, (⟨#[]⟩ : ByteArray), (⟨#[97]⟩ : ByteArray), ([] : List (S24))⟩ : S24), (⟨5, (⟨#[]⟩ : ByteArray), (⟨#[]⟩ : ByteArray), (([(⟨1, (⟨#[]⟩ : ByteArray), (⟨#[98]⟩ : ByteArray), ([] : List (S24))⟩ : S24), (⟨2, (⟨#[99]⟩ : ByteArray), (⟨#[100]⟩ : ByteArray), ([] : List (S24))⟩ : S24)] : List (S24)))⟩ : S24)] : List (S24)) : List (S24))).bind fun y104 => ((expr_Text.f k 3 (⟨#[]⟩ : ByteArray) (⟨#[]⟩ : ByteArray) y104).bind fun t108 => (if t108.toList = ([97, 32, 43, 32, 40, 98, 32, 45, 32, 99, 45, 62, 100, 41] : List UInt8) then ((expr_Right.f k 3 (⟨#[]⟩ : ByteArray) (⟨#[]⟩ : ByteArray) y104).bind fun t109 => (if t109 = true then ((expr_Depth.f k 3 (⟨#[]⟩ : ByteArray) (⟨#[]⟩ : ByteArray) y104).bind fun t110 => (if t110 = 3 then ((expr_Right.f k 0 (⟨#[]⟩ : ByteArray) (⟨#[]⟩ : ByteArray) ([] : List (S24))).bind fun t111 => (if t111 = true then (some false) else ((expr_Text.f k 0 (⟨#[]⟩ : ByteArray) (⟨#[]⟩ : ByteArray) ([] : List (S24))).bind fun t112 => (if t112.toList = ([] : List UInt8) then ((expr_Clone.f k 3 (⟨#[]⟩ : ByteArray) (⟨#[]⟩ : ByteArray) y104).bind fun bt113 => ((expr_Same.f 3 (⟨#[]⟩ : ByteArray) (⟨#[]⟩ : ByteArray) y104 bt113.1 bt113.2.1 bt113.2.2.1 bt113.2.2.2).bind fun t119 => (if t119 = true then ((expr_Leaves.f 3 (⟨#[]⟩ : ByteArray) (⟨#[]⟩ : ByteArray) y104).bind fun t120 => (if t120 = true then (if 0 < (y104.length : Int) then ((expr_Compare.f 3 (⟨#[]⟩ : ByteArray) (⟨#[]⟩ : ByteArray) y104 ((rd_T24 y104 0).f0) ((rd_T24 y104 0).f1) ((rd_T24 y104 0).f2) ((rd_T24 y104 0).f3)).bind fun t122 => (some (t122 == 1))) else (none)) else (some false))) else (some false)))) else (some false))))) else (some false))) else (some false))) else (some false)))) = some r := h
  clear h
  obtain ⟨y101, hy101⟩ : ∃ y_ : List (S24), y_ = (([(⟨1, (⟨#[]⟩ : ByteArray), (⟨#[98]⟩ : ByteArray), ([] : List (S24))⟩ : S24), (⟨2, (⟨#[99]⟩ : ByteArray), (⟨#[100]⟩ : ByteArray), ([] : List (S24))⟩ : S24)] : List (S24))) := ⟨_, rfl⟩
  replace H : ((some (([(⟨1, (⟨#[]⟩ : ByteArray), (⟨#[97]⟩ : ByteArray), ([] : List (S24))⟩ : S24), (⟨5, (⟨#[]⟩ : ByteArray), (⟨#[]⟩ : ByteArray), y101⟩ : S24)] : List (S24)) : List (S24))).bind fun y104 => ((expr_Text.f k 3 (⟨#[]⟩ : ByteArray) (⟨#[]⟩ : ByteArray) y104).bind fun t108 => (if t108.toList = ([97, 32, 43, 32, 40, 98, 32, 45, 32, 99, 45, 62, 100, 41] : List UInt8) then ((expr_Right.f k 3 (⟨#[]⟩ : ByteArray) (⟨#[]⟩ : ByteArray) y104).bind fun t109 => (if t109 = true then ((expr_Depth.f k 3 (⟨#[]⟩ : ByteArray) (⟨#[]⟩ : ByteArray) y104).bind fun t110 => (if t110 = 3 then ((expr_Right.f k 0 (⟨#[]⟩ : ByteArray) (⟨#[]⟩ : ByteArray) ([] : List (S24))).bind fun t111 => (if t111 = true then (some false) else ((expr_Text.f k 0 (⟨#[]⟩ : ByteArray) (⟨#[]⟩ : ByteArray) ([] : List (S24))).bind fun t112 => (if t112.toList = ([] : List UInt8) then ((expr_Clone.f k 3 (⟨#[]⟩ : ByteArray) (⟨#[]⟩ : ByteArray) y104).bind fun bt113 => ((expr_Same.f 3 (⟨#[]⟩ : ByteArray) (⟨#[]⟩ : ByteArray) y104 bt113.1 bt113.2.1 bt113.2.2.1 bt113.2.2.2).bind fun t119 => (if t119 = true then ((expr_Leaves.f 3 (⟨#[]⟩ : ByteArray) (⟨#[]⟩ : ByteArray) y104).bind fun t120 => (if t120 = true then (if 0 < (y104.length : Int) then ((expr_Compare.f 3 (⟨#[]⟩ : ByteArray) (⟨#[]⟩ : ByteArray) y104 ((rd_T24 y104 0).f0) ((rd_T24 y104 0).f1) ((rd_T24 y104 0).f2) ((rd_T24 y104 0).f3)).bind fun t122 => (some (t122 == 1))) else (none)) else (some false))) else (some false)))) else (some false))))) else (some false))) else (some false))) else (some false)))) = some r := by first | (rw [hy101]; with_reducible exact H) | (have H2_ := (Option.bind_some _ _).symm.trans H; rw [hy101]; with_reducible exact H2_) | (have H2_ := (Option.bind_some _ _).symm.trans H; with_reducible exact H2_) | with_reducible exact H | (rw [hy101]; exact H) | exact H
  have Ny101 := Aside0.mk hy101
  clear hy101
  obtain ⟨y104, hy104⟩ : ∃ y_ : List (S24), y_ = (([(⟨1, (⟨#[]⟩ : ByteArray), (⟨#[97]⟩ : ByteArray), ([] : List (S24))⟩ : S24), (⟨5, (⟨#[]⟩ : ByteArray), (⟨#[]⟩ : ByteArray), y101⟩ : S24)] : List (S24))) := ⟨_, rfl⟩
  replace H : ((expr_Text.f k 3 (⟨#[]⟩ : ByteArray) (⟨#[]⟩ : ByteArray) y104).bind fun t108 => (if t108.toList = ([97, 32, 43, 32, 40, 98, 32, 45, 32, 99, 45, 62, 100, 41] : List UInt8) then ((expr_Right.f k 3 (⟨#[]⟩ : ByteArray) (⟨#[]⟩ : ByteArray) y104).bind fun t109 => (if t109 = true then ((expr_Depth.f k 3 (⟨#[]⟩ : ByteArray) (⟨#[]⟩ : ByteArray) y104).bind fun t110 => (if t110 = 3 then ((expr_Right.f k 0 (⟨#[]⟩ : ByteArray) (⟨#[]⟩ : ByteArray) ([] : List (S24))).bind fun t111 => (if t111 = true then (some false) else ((expr_Text.f k 0 (⟨#[]⟩ : ByteArray) (⟨#[]⟩ : ByteArray) ([] : List (S24))).bind fun t112 => (if t112.toList = ([] : List UInt8) then ((expr_Clone.f k 3 (⟨#[]⟩ : ByteArray) (⟨#[]⟩ : ByteArray) y104).bind fun bt113 => ((expr_Same.f 3 (⟨#[]⟩ : ByteArray) (⟨#[]⟩ : ByteArray) y104 bt113.1 bt113.2.1 bt113.2.2.1 bt113.2.2.2).bind fun t119 => (if t119 = true then ((expr_Leaves.f 3 (⟨#[]⟩ : ByteArray) (⟨#[]⟩ : ByteArray) y104).bind fun t120 => (if t120 = true then (if 0 < (y104.length : Int) then ((expr_Compare.f 3 (⟨#[]⟩ : ByteArray) (⟨#[]⟩ : ByteArray) y104 ((rd_T24 y104 0).f0) ((rd_T24 y104 0).f1) ((rd_T24 y104 0).f2) ((rd_T24 y104 0).f3)).bind fun t122 => (some (t122 == 1))) else (none)) else (some false))) else (some false)))) else (some false))))) else (some false))) else (some false))) else (some false))) = some r := by first | (rw [hy104]; with_reducible exact H) | (have H2_ := (Option.bind_some _ _).symm.trans H; rw [hy104]; with_reducible exact H2_) | (have H2_ := (Option.bind_some _ _).symm.trans H; with_reducible exact H2_) | with_reducible exact H | (rw [hy104]; exact H) | exact H
  have Ny104 := Aside0.mk hy104
  clear hy104
  replace H := Option.bind_eq_some_iff.mp H
  obtain ⟨t108, A10, H⟩ := H
  replace H : (if t108.toList = ([97, 32, 43, 32, 40, 98, 32, 45, 32, 99, 45, 62, 100, 41] : List UInt8) then ((expr_Right.f k 3 (⟨#[]⟩ : ByteArray) (⟨#[]⟩ : ByteArray) y104).bind fun t109 => (if t109 = true then ((expr_Depth.f k 3 (⟨#[]⟩ : ByteArray) (⟨#[]⟩ : ByteArray) y104).bind fun t110 => (if t110 = 3 then ((expr_Right.f k 0 (⟨#[]⟩ : ByteArray) (⟨#[]⟩ : ByteArray) ([] : List (S24))).bind fun t111 => (if t111 = true then (some false) else ((expr_Text.f k 0 (⟨#[]⟩ : ByteArray) (⟨#[]⟩ : ByteArray) ([] : List (S24))).bind fun t112 => (if t112.toList = ([] : List UInt8) then ((expr_Clone.f k 3 (⟨#[]⟩ : ByteArray) (⟨#[]⟩ : ByteArray) y104).bind fun bt113 => ((expr_Same.f 3 (⟨#[]⟩ : ByteArray) (⟨#[]⟩ : ByteArray) y104 bt113.1 bt113.2.1 bt113.2.2.1 bt113.2.2.2).bind fun t119 => (if t119 = true then ((expr_Leaves.f 3 (⟨#[]⟩ : ByteArray) (⟨#[]⟩ : ByteArray) y104).bind fun t120 => (if t120 = true then (if 0 < (y104.length : Int) then ((expr_Compare.f 3 (⟨#[]⟩ : ByteArray) (⟨#[]⟩ : ByteArray) y104 ((rd_T24 y104 0).f0) ((rd_T24 y104 0).f1) ((rd_T24 y104 0).f2) ((rd_T24 y104 0).f3)).bind fun t122 => (some (t122 == 1))) else (none)) else (some false))) else (some false)))) else (some false))))) else (some false))) else (some false))) else (some false)) = some r := H
  have A1 := Aside0.mk A10
  clear A10
  by_cases c2 : t108.toList = ([97, 32, 43, 32, 40, 98, 32, 45, 32, 99, 45, 62, 100, 41] : List UInt8)
  · rw [if_pos c2] at H
    have c2b0 : (t108.toList == ([97, 32, 43, 32, 40, 98, 32, 45, 32, 99, 45, 62, 100, 41] : List UInt8)) = true := beq_iff_eq.mpr c2
    have c2b1 : (t108.toList != ([97, 32, 43, 32, 40, 98, 32, 45, 32, 99, 45, 62, 100, 41] : List UInt8)) = false := bne_eq_false_iff_eq.mpr c2
    clear c2
    replace H := Option.bind_eq_some_iff.mp H
    obtain ⟨t109, A30, H⟩ := H
    replace H : (if t109 = true then ((expr_Depth.f k 3 (⟨#[]⟩ : ByteArray) (⟨#[]⟩ : ByteArray) y104).bind fun t110 => (if t110 = 3 then ((expr_Right.f k 0 (⟨#[]⟩ : ByteArray) (⟨#[]⟩ : ByteArray) ([] : List (S24))).bind fun t111 => (if t111 = true then (some false) else ((expr_Text.f k 0 (⟨#[]⟩ : ByteArray) (⟨#[]⟩ : ByteArray) ([] : List (S24))).bind fun t112 => (if t112.toList = ([] : List UInt8) then ((expr_Clone.f k 3 (⟨#[]⟩ : ByteArray) (⟨#[]⟩ : ByteArray) y104).bind fun bt113 => ((expr_Same.f 3 (⟨#[]⟩ : ByteArray) (⟨#[]⟩ : ByteArray) y104 bt113.1 bt113.2.1 bt113.2.2.1 bt113.2.2.2).bind fun t119 => (if t119 = true then ((expr_Leaves.f 3 (⟨#[]⟩ : ByteArray) (⟨#[]⟩ : ByteArray) y104).bind fun t120 => (if t120 = true then (if 0 < (y104.length : Int) then ((expr_Compare.f 3 (⟨#[]⟩ : ByteArray) (⟨#[]⟩ : ByteArray) y104 ((rd_T24 y104 0).f0) ((rd_T24 y104 0).f1) ((rd_T24 y104 0).f2) ((rd_T24 y104 0).f3)).bind fun t122 => (some (t122 == 1))) else (none)) else (some false))) else (some false)))) else (some false))))) else (some false))) else (some false)) = some r := H
    have A3 := Aside0.mk A30
    clear A30
    by_cases c4 : t109 = true
    · subst c4
      have H1 : ((expr_Depth.f k 3 (⟨#[]⟩ : ByteArray) (⟨#[]⟩ : ByteArray) y104).bind fun t110 => (if t110 = 3 then ((expr_Right.f k 0 (⟨#[]⟩ : ByteArray) (⟨#[]⟩ : ByteArray) ([] : List (S24))).bind fun t111 => (if t111 = true then (some false) else ((expr_Text.f k 0 (⟨#[]⟩ : ByteArray) (⟨#[]⟩ : ByteArray) ([] : List (S24))).bind fun t112 => (if t112.toList = ([] : List UInt8) then ((expr_Clone.f k 3 (⟨#[]⟩ : ByteArray) (⟨#[]⟩ : ByteArray) y104).bind fun bt113 => ((expr_Same.f 3 (⟨#[]⟩ : ByteArray) (⟨#[]⟩ : ByteArray) y104 bt113.1 bt113.2.1 bt113.2.2.1 bt113.2.2.2).bind fun t119 => (if t119 = true then ((expr_Leaves.f 3 (⟨#[]⟩ : ByteArray) (⟨#[]⟩ : ByteArray) y104).bind fun t120 => (if t120 = true then (if 0 < (y104.length : Int) then ((expr_Compare.f 3 (⟨#[]⟩ : ByteArray) (⟨#[]⟩ : ByteArray) y104 ((rd_T24 y104 0).f0) ((rd_T24 y104 0).f1) ((rd_T24 y104 0).f2) ((rd_T24 y104 0).f3)).bind fun t122 => (some (t122 == 1))) else (none)) else (some false))) else (some false)))) else (some false))))) else (some false))) = some r := by rw [if_pos rfl] at H; exact H
      clear H
      have H := H1
      clear H1
      replace H := Option.bind_eq_some_iff.mp H
      obtain ⟨t110, A50, H⟩ := H
      replace H : (if t110 = 3 then ((expr_Right.f k 0 (⟨#[]⟩ : ByteArray) (⟨#[]⟩ : ByteArray) ([] : List (S24))).bind fun t111 => (if t111 = true then (some false) else ((expr_Text.f k 0 (⟨#[]⟩ : ByteArray) (⟨#[]⟩ : ByteArray) ([] : List (S24))).bind fun t112 => (if t112.toList = ([] : List UInt8) then ((expr_Clone.f k 3 (⟨#[]⟩ : ByteArray) (⟨#[]⟩ : ByteArray) y104).bind fun bt113 => ((expr_Same.f 3 (⟨#[]⟩ : ByteArray) (⟨#[]⟩ : ByteArray) y104 bt113.1 bt113.2.1 bt113.2.2.1 bt113.2.2.2).bind fun t119 => (if t119 = true then ((expr_Leaves.f 3 (⟨#[]⟩ : ByteArray) (⟨#[]⟩ : ByteArray) y104).bind fun t120 => (if t120 = true then (if 0 < (y104.length : Int) then ((expr_Compare.f 3 (⟨#[]⟩ : ByteArray) (⟨#[]⟩ : ByteArray) y104 ((rd_T24 y104 0).f0) ((rd_T24 y104 0).f1) ((rd_T24 y104 0).f2) ((rd_T24 y104 0).f3)).bind fun t122 => (some (t122 == 1))) else (none)) else (some false))) else (some false)))) else (some false))))) else (some false)) = some r := H
      have A5 := Aside0.mk A50
      clear A50
      by_cases c6 : t110 = 3
      · rw [if_pos c6] at H
        have c6b0 : (t110 == 3) = true := beq_iff_eq.mpr c6
        have c6b1 : (t110 != 3) = false := bne_eq_false_iff_eq.mpr c6
        clear c6
        replace H := Option.bind_eq_some_iff.mp H
        obtain ⟨t111, A70, H⟩ := H
        replace H : (if t111 = true then (some false) else ((expr_Text.f k 0 (⟨#[]⟩ : ByteArray) (⟨#[]⟩ : ByteArray) ([] : List (S24))).bind fun t112 => (if t112.toList = ([] : List UInt8) then ((expr_Clone.f k 3 (⟨#[]⟩ : ByteArray) (⟨#[]⟩ : ByteArray) y104).bind fun bt113 => ((expr_Same.f 3 (⟨#[]⟩ : ByteArray) (⟨#[]⟩ : ByteArray) y104 bt113.1 bt113.2.1 bt113.2.2.1 bt113.2.2.2).bind fun t119 => (if t119 = true then ((expr_Leaves.f 3 (⟨#[]⟩ : ByteArray) (⟨#[]⟩ : ByteArray) y104).bind fun t120 => (if t120 = true then (if 0 < (y104.length : Int) then ((expr_Compare.f 3 (⟨#[]⟩ : ByteArray) (⟨#[]⟩ : ByteArray) y104 ((rd_T24 y104 0).f0) ((rd_T24 y104 0).f1) ((rd_T24 y104 0).f2) ((rd_T24 y104 0).f3)).bind fun t122 => (some (t122 == 1))) else (none)) else (some false))) else (some false)))) else (some false)))) = some r := H
        have A7 := Aside0.mk A70
        clear A70
        by_cases c8 : t111 = true
        · exact absurd c8 (awk_right0 A7.out)
        · replace c8 := Bool.eq_false_iff.mpr c8
          subst c8
          have H1 : ((expr_Text.f k 0 (⟨#[]⟩ : ByteArray) (⟨#[]⟩ : ByteArray) ([] : List (S24))).bind fun t112 => (if t112.toList = ([] : List UInt8) then ((expr_Clone.f k 3 (⟨#[]⟩ : ByteArray) (⟨#[]⟩ : ByteArray) y104).bind fun bt113 => ((expr_Same.f 3 (⟨#[]⟩ : ByteArray) (⟨#[]⟩ : ByteArray) y104 bt113.1 bt113.2.1 bt113.2.2.1 bt113.2.2.2).bind fun t119 => (if t119 = true then ((expr_Leaves.f 3 (⟨#[]⟩ : ByteArray) (⟨#[]⟩ : ByteArray) y104).bind fun t120 => (if t120 = true then (if 0 < (y104.length : Int) then ((expr_Compare.f 3 (⟨#[]⟩ : ByteArray) (⟨#[]⟩ : ByteArray) y104 ((rd_T24 y104 0).f0) ((rd_T24 y104 0).f1) ((rd_T24 y104 0).f2) ((rd_T24 y104 0).f3)).bind fun t122 => (some (t122 == 1))) else (none)) else (some false))) else (some false)))) else (some false))) = some r := by rw [if_neg (show ¬ (false = true) by decide)] at H; exact H
          clear H
          have H := H1
          clear H1
          replace H := Option.bind_eq_some_iff.mp H
          obtain ⟨t112, A230, H⟩ := H
          replace H : (if t112.toList = ([] : List UInt8) then ((expr_Clone.f k 3 (⟨#[]⟩ : ByteArray) (⟨#[]⟩ : ByteArray) y104).bind fun bt113 => ((expr_Same.f 3 (⟨#[]⟩ : ByteArray) (⟨#[]⟩ : ByteArray) y104 bt113.1 bt113.2.1 bt113.2.2.1 bt113.2.2.2).bind fun t119 => (if t119 = true then ((expr_Leaves.f 3 (⟨#[]⟩ : ByteArray) (⟨#[]⟩ : ByteArray) y104).bind fun t120 => (if t120 = true then (if 0 < (y104.length : Int) then ((expr_Compare.f 3 (⟨#[]⟩ : ByteArray) (⟨#[]⟩ : ByteArray) y104 ((rd_T24 y104 0).f0) ((rd_T24 y104 0).f1) ((rd_T24 y104 0).f2) ((rd_T24 y104 0).f3)).bind fun t122 => (some (t122 == 1))) else (none)) else (some false))) else (some false)))) else (some false)) = some r := H
          have A23 := Aside0.mk A230
          clear A230
          by_cases c24 : t112.toList = ([] : List UInt8)
          · rw [if_pos c24] at H
            have c24b0 : (t112.toList == ([] : List UInt8)) = true := beq_iff_eq.mpr c24
            have c24b1 : (t112.toList != ([] : List UInt8)) = false := bne_eq_false_iff_eq.mpr c24
            clear c24
            replace H := Option.bind_eq_some_iff.mp H
            obtain ⟨⟨t113, t114, t115, t116⟩, A250, H⟩ := H
            replace H : ((expr_Same.f 3 (⟨#[]⟩ : ByteArray) (⟨#[]⟩ : ByteArray) y104 t113 t114 t115 t116).bind fun t119 => (if t119 = true then ((expr_Leaves.f 3 (⟨#[]⟩ : ByteArray) (⟨#[]⟩ : ByteArray) y104).bind fun t120 => (if t120 = true then (if 0 < (y104.length : Int) then ((expr_Compare.f 3 (⟨#[]⟩ : ByteArray) (⟨#[]⟩ : ByteArray) y104 ((rd_T24 y104 0).f0) ((rd_T24 y104 0).f1) ((rd_T24 y104 0).f2) ((rd_T24 y104 0).f3)).bind fun t122 => (some (t122 == 1))) else (none)) else (some false))) else (some false))) = some r := H
            have A25 := Aside0.mk A250
            clear A250
            replace H := Option.bind_eq_some_iff.mp H
            obtain ⟨t119, A260, H⟩ := H
            replace H : (if t119 = true then ((expr_Leaves.f 3 (⟨#[]⟩ : ByteArray) (⟨#[]⟩ : ByteArray) y104).bind fun t120 => (if t120 = true then (if 0 < (y104.length : Int) then ((expr_Compare.f 3 (⟨#[]⟩ : ByteArray) (⟨#[]⟩ : ByteArray) y104 ((rd_T24 y104 0).f0) ((rd_T24 y104 0).f1) ((rd_T24 y104 0).f2) ((rd_T24 y104 0).f3)).bind fun t122 => (some (t122 == 1))) else (none)) else (some false))) else (some false)) = some r := H
            have A26 := Aside0.mk A260
            clear A260
            by_cases c27 : t119 = true
            · subst c27
              have H1 : ((expr_Leaves.f 3 (⟨#[]⟩ : ByteArray) (⟨#[]⟩ : ByteArray) y104).bind fun t120 => (if t120 = true then (if 0 < (y104.length : Int) then ((expr_Compare.f 3 (⟨#[]⟩ : ByteArray) (⟨#[]⟩ : ByteArray) y104 ((rd_T24 y104 0).f0) ((rd_T24 y104 0).f1) ((rd_T24 y104 0).f2) ((rd_T24 y104 0).f3)).bind fun t122 => (some (t122 == 1))) else (none)) else (some false))) = some r := by rw [if_pos rfl] at H; exact H
              clear H
              have H := H1
              clear H1
              replace H := Option.bind_eq_some_iff.mp H
              obtain ⟨t120, A280, H⟩ := H
              replace H : (if t120 = true then (if 0 < (y104.length : Int) then ((expr_Compare.f 3 (⟨#[]⟩ : ByteArray) (⟨#[]⟩ : ByteArray) y104 ((rd_T24 y104 0).f0) ((rd_T24 y104 0).f1) ((rd_T24 y104 0).f2) ((rd_T24 y104 0).f3)).bind fun t122 => (some (t122 == 1))) else (none)) else (some false)) = some r := H
              have A28 := Aside0.mk A280
              clear A280
              by_cases c29 : t120 = true
              · subst c29
                have H1 : (if 0 < (y104.length : Int) then ((expr_Compare.f 3 (⟨#[]⟩ : ByteArray) (⟨#[]⟩ : ByteArray) y104 ((rd_T24 y104 0).f0) ((rd_T24 y104 0).f1) ((rd_T24 y104 0).f2) ((rd_T24 y104 0).f3)).bind fun t122 => (some (t122 == 1))) else (none)) = some r := by rw [if_pos rfl] at H; exact H
                clear H
                have H := H1
                clear H1
                by_cases c30 : 0 < (y104.length : Int)
                · rw [if_pos c30] at H
                  have c30b0 : decide (0 < (y104.length : Int)) = true := decide_eq_true c30
                  have c30b1 : decide (0 < y104.length) = true := decide_eq_true (by omega)
                  clear c30
                  replace H := Option.bind_eq_some_iff.mp H
                  obtain ⟨t122, A310, H⟩ := H
                  replace H : (some (t122 == 1)) = some r := H
                  have A31 := Aside0.mk A310
                  clear A310
                  obtain rfl := Option.some.inj H
                  go_enter Tryd.func13, Tryd.ntmps13
                  try go_wp2_with (first | ((with_reducible refine gate_dst (N := 5) rfl ?_); refine Kd.N_lit k24 _ 24 ?hg (N' := 5) ?hd (xs := ([(⟨1, (⟨#[]⟩ : ByteArray), (⟨#[98]⟩ : ByteArray), ([] : List (S24))⟩ : S24), (⟨2, (⟨#[99]⟩ : ByteArray), (⟨#[100]⟩ : ByteArray), ([] : List (S24))⟩ : S24)] : List (S24))) (inner := [.int .i64 1, .string (⟨#[]⟩ : ByteArray), .string (⟨#[98]⟩ : ByteArray), .slice none 0 0, .int .i64 2, .string (⟨#[99]⟩ : ByteArray), .string (⟨#[100]⟩ : ByteArray), .slice none 0 0]) (ok := (fun _ => True)) (okp := (fun _ => True)) ?hr ?hp (fun _ hk => hk) ((show ∀ k_, w.heap.size ≤ k_ → (fun _ => True) k_ from fun k_ hk => trivial) _ (Nat.le_refl _)) (Below.refl _ _) (Nat.le_refl _) (by simp) ?_; (case hd => rfl); (case hg => rfl); (case hr => first | (go_simp; done) | (go_simp; rfl)); (case hp => exact (Reps.c4 (show Kd.FK k24 _ _ (⟨1, (⟨#[]⟩ : ByteArray), (⟨#[98]⟩ : ByteArray), ([] : List (S24))⟩ : S24) [.int .i64 1, .string (⟨#[]⟩ : ByteArray), .string (⟨#[98]⟩ : ByteArray), .slice none 0 0] from (k24_mkF _ _ (⟨1, (⟨#[]⟩ : ByteArray), (⟨#[98]⟩ : ByteArray), ([] : List (S24))⟩ : S24) (Nat.le_refl _) (Kd.F_nil _ _ _))) (Reps.c4 (show Kd.FK k24 _ _ (⟨2, (⟨#[99]⟩ : ByteArray), (⟨#[100]⟩ : ByteArray), ([] : List (S24))⟩ : S24) [.int .i64 2, .string (⟨#[99]⟩ : ByteArray), .string (⟨#[100]⟩ : ByteArray), .slice none 0 0] from (k24_mkF _ _ (⟨2, (⟨#[99]⟩ : ByteArray), (⟨#[100]⟩ : ByteArray), ([] : List (S24))⟩ : S24) (Nat.le_refl _) (Kd.F_nil _ _ _))) (Reps.none _ _)))); intro v102 w32 ho33 hb hg_ hnew_; clear hg_ hnew_; (first | rw [← Ny101.out] at ho33 | (simp only [Int.reduceToNat] at ho33; rw [← Ny101.out] at ho33)); have n0_ := Aside0.mk (Kd.N_lower ho33 (below_size (by repeat (first | (with_reducible first | exact HB.out | apply below_alloc | apply pw_below_drewN | apply below_drew1) | exact HB.out)))); have n1_ := Aside0.mk (below_step (by repeat (first | (with_reducible first | exact HB.out | apply below_alloc | apply pw_below_drewN | apply below_drew1) | exact HB.out)) hb); clear HB; have HO103 := n0_; have HB := n1_; clear n0_ n1_; clear hb ho33; obtain ⟨Ao34, co34, eo34⟩ := Kd.N_slice HO103.out; subst eo34) | ((with_reducible refine gate_dst (N := 7) rfl ?_); refine Kd.N_lit k24 _ 24 ?hg (N' := 7) ?hd (xs := ([(⟨1, (⟨#[]⟩ : ByteArray), (⟨#[97]⟩ : ByteArray), ([] : List (S24))⟩ : S24), (⟨5, (⟨#[]⟩ : ByteArray), (⟨#[]⟩ : ByteArray), y101⟩ : S24)] : List (S24))) (inner := [.int .i64 1, .string (⟨#[]⟩ : ByteArray), .string (⟨#[97]⟩ : ByteArray), .slice none 0 0, .int .i64 5, .string (⟨#[]⟩ : ByteArray), .string (⟨#[]⟩ : ByteArray), .slice Ao34 y101.length co34]) (ok := (fun _ => True)) (okp := (fun _ => True)) ?hr ?hp (fun _ hk => hk) ((show ∀ k_, w32.heap.size ≤ k_ → (fun _ => True) k_ from fun k_ hk => trivial) _ (Nat.le_refl _)) (Below.refl _ _) (Nat.le_refl _) (by simp) ?_; (case hd => rfl); (case hg => rfl); (case hr => first | (go_simp; done) | (go_simp; rfl)); (case hp => exact (Reps.c4 (show Kd.FK k24 _ _ (⟨1, (⟨#[]⟩ : ByteArray), (⟨#[97]⟩ : ByteArray), ([] : List (S24))⟩ : S24) [.int .i64 1, .string (⟨#[]⟩ : ByteArray), .string (⟨#[97]⟩ : ByteArray), .slice none 0 0] from (k24_mkF _ _ (⟨1, (⟨#[]⟩ : ByteArray), (⟨#[97]⟩ : ByteArray), ([] : List (S24))⟩ : S24) (Nat.le_refl _) (Kd.F_nil _ _ _))) (Reps.c4 (show Kd.FK k24 _ _ (⟨5, (⟨#[]⟩ : ByteArray), (⟨#[]⟩ : ByteArray), y101⟩ : S24) [.int .i64 5, .string (⟨#[]⟩ : ByteArray), .string (⟨#[]⟩ : ByteArray), .slice Ao34 y101.length co34] from (k24_mkF _ _ (⟨5, (⟨#[]⟩ : ByteArray), (⟨#[]⟩ : ByteArray), y101⟩ : S24) (Kd.N_reads' (Kd.N_mono (ok' := (fun _ => True)) (HO103.out) (fun k_ hk => trivial))).2.1 (Kd.N_F (Kd.N_mono (ok' := (fun _ => True)) (HO103.out) (fun k_ hk => trivial))))) (Reps.none _ _)))); intro v105 w35 ho36 hb hg_ hnew_; clear hg_ hnew_; (first | rw [← Ny104.out] at ho36 | (simp only [Int.reduceToNat] at ho36; rw [← Ny104.out] at ho36)); have n0_ := Aside0.mk (Kd.N_lower ho36 (below_size (by repeat (first | (with_reducible first | exact HB.out | apply below_alloc | apply pw_below_drewN | apply below_drew1) | exact HB.out)))); have n1_ := Aside0.mk (below_step (by repeat (first | (with_reducible first | exact HB.out | apply below_alloc | apply pw_below_drewN | apply below_drew1) | exact HB.out)) hb); clear HB; clear HO103; have HO106 := n0_; have HB := n1_; clear n0_ n1_; clear hb ho36; obtain ⟨Ao37, co37, eo37⟩ := Kd.N_slice HO106.out; subst eo37) | ((with_reducible refine gate_dst (N := 1) rfl ?_); refine box_event ?hg (N := 1) ?hd (cs := #[.int .i64 0, .string (⟨#[]⟩ : ByteArray), .string (⟨#[]⟩ : ByteArray), .slice none 0 0]) (t := 24) ?hr ?_; (case hd => rfl); (case hg => rfl); (case hr => first | (go_simp; done) | (go_simp; rfl)); intro gb107 hg w38 hbox hb; have n0_ := Aside0.mk (Kd.N_below (Kd.N_elderB (by (with_reducible repeat (first | apply Kd.N_alloc | apply Kd.N_drewN | apply Kd.N_drew)); exact HO106.out) gb107 (Nat.le_of_eq hg.symm)) hb); have n1_ := Aside0.mk (below_step (by repeat (first | (with_reducible first | exact HB.out | apply below_alloc | apply pw_below_drewN | apply below_drew1) | exact HB.out)) hb); have n2_ := Aside0.mk (hbox); have n3_ := Aside0.mk ((by rw [hg]; exact (below_size (by repeat (first | (with_reducible first | exact HB.out | apply below_alloc | apply pw_below_drewN | apply below_drew1) | exact HB.out))) : w.heap.size ≤ gb107)); have n4_ := Aside0.mk ((by rw [hg]; exact (below_size (by repeat (first | (with_reducible first | exact HB.out | apply below_alloc | apply pw_below_drewN | apply below_drew1) | exact HB.out))) : w.heap.size ≤ gb107)); clear HO106; clear HB; have HO106 := n0_; have HB := n1_; have BK107 := n2_; have GW107 := n3_; have GE107 := n4_; clear n0_ n1_ n2_ n3_ n4_; clear hb hbox hg; have hcz39_0 : w38.cell? ⟨gb107, 0, none⟩ = some (.int .i64 0) := (blk_cell BK107.out 0).trans rfl; have hcz39_1 : w38.cell? ⟨gb107, 1, none⟩ = some (.string (⟨#[]⟩ : ByteArray)) := (blk_cell BK107.out 1).trans rfl; have hcz39_2 : w38.cell? ⟨gb107, 2, none⟩ = some (.string (⟨#[]⟩ : ByteArray)) := (blk_cell BK107.out 2).trans rfl; have hcz39_3 : w38.cell? ⟨gb107, 3, none⟩ = some (.slice none 0 0) := (blk_cell BK107.out 3).trans rfl; have hfz39_0 := blk_frozen BK107.out 0; have hfz39_1 := blk_frozen BK107.out 1; have hfz39_2 := blk_frozen BK107.out 2; have hfz39_3 := blk_frozen BK107.out 3))
                  have n0_ : Aside0 (Kd.N k24 24 ((((w38.setCell ⟨gb107, 0, none⟩ (.int .i64 3)).setCell ⟨gb107, 1, none⟩ (.string (⟨#[]⟩ : ByteArray))).setCell ⟨gb107, 2, none⟩ (.string (⟨#[]⟩ : ByteArray))).setCell ⟨gb107, 3, none⟩ (.slice Ao37 y104.length co37)) w.heap.size (fun k_ => k_ ≠ gb107) (.slice Ao37 y104.length co37) y104) := ⟨by (with_reducible repeat (first | apply Kd.N_alloc | apply Kd.N_drewN | apply Kd.N_drew)); exact Kd.N_mono (Kd.N_far (p := ⟨gb107, 3, none⟩) (Kd.N_far (p := ⟨gb107, 2, none⟩) (Kd.N_far (p := ⟨gb107, 1, none⟩) (Kd.N_far (p := ⟨gb107, 0, none⟩) (Kd.N_mono HO106.out (fun k_ hk => (⟨hk, hk.2⟩ : _ ∧ k_ ≠ gb107))) (fun _ hk => hk.2) (.int .i64 3)) (fun _ hk => hk.2) (.string (⟨#[]⟩ : ByteArray))) (fun _ hk => hk.2) (.string (⟨#[]⟩ : ByteArray))) (fun _ hk => hk.2) (.slice Ao37 y104.length co37)) (fun _ hk => hk.1.2)⟩
                  have n1_ : Aside0 (((((w38.setCell ⟨gb107, 0, none⟩ (.int .i64 3)).setCell ⟨gb107, 1, none⟩ (.string (⟨#[]⟩ : ByteArray))).setCell ⟨gb107, 2, none⟩ (.string (⟨#[]⟩ : ByteArray))).setCell ⟨gb107, 3, none⟩ (.slice Ao37 y104.length co37)).heap[gb107]? = some (.cells #[.int .i64 3, .string (⟨#[]⟩ : ByteArray), .string (⟨#[]⟩ : ByteArray), .slice Ao37 y104.length co37] 24 (0, 0))) := ⟨by (with_reducible repeat (first | refine blk_drewN ?_ _ | refine blk_drew ?_ | refine blk_alloc ?_ _)); refine blk_put (cs := #[.int .i64 3, .string (⟨#[]⟩ : ByteArray), .string (⟨#[]⟩ : ByteArray), .slice none 0 0]) ?_ 3 _ rfl; (with_reducible repeat (first | refine blk_drewN ?_ _ | refine blk_drew ?_ | refine blk_alloc ?_ _)); refine blk_put (cs := #[.int .i64 3, .string (⟨#[]⟩ : ByteArray), .string (⟨#[]⟩ : ByteArray), .slice none 0 0]) ?_ 2 _ rfl; (with_reducible repeat (first | refine blk_drewN ?_ _ | refine blk_drew ?_ | refine blk_alloc ?_ _)); refine blk_put (cs := #[.int .i64 3, .string (⟨#[]⟩ : ByteArray), .string (⟨#[]⟩ : ByteArray), .slice none 0 0]) ?_ 1 _ rfl; (with_reducible repeat (first | refine blk_drewN ?_ _ | refine blk_drew ?_ | refine blk_alloc ?_ _)); refine blk_put (cs := #[.int .i64 0, .string (⟨#[]⟩ : ByteArray), .string (⟨#[]⟩ : ByteArray), .slice none 0 0]) ?_ 0 _ rfl; (with_reducible repeat (first | refine blk_drewN ?_ _ | refine blk_drew ?_ | refine blk_alloc ?_ _)); exact BK107.out⟩
                  have n2_ : Aside0 (Below w.heap.size w ((((w38.setCell ⟨gb107, 0, none⟩ (.int .i64 3)).setCell ⟨gb107, 1, none⟩ (.string (⟨#[]⟩ : ByteArray))).setCell ⟨gb107, 2, none⟩ (.string (⟨#[]⟩ : ByteArray))).setCell ⟨gb107, 3, none⟩ (.slice Ao37 y104.length co37))) := ⟨by repeat (first | (with_reducible first | exact HB.out | apply below_alloc | apply pw_below_drewN | apply below_drew1 | refine below_set ?_ GE107.out) | exact HB.out)⟩
                  (try clear HO106)
                  (try clear BK107)
                  (try clear HB)
                  generalize ((((w38.setCell ⟨gb107, 0, none⟩ (.int .i64 3)).setCell ⟨gb107, 1, none⟩ (.string (⟨#[]⟩ : ByteArray))).setCell ⟨gb107, 2, none⟩ (.string (⟨#[]⟩ : ByteArray))).setCell ⟨gb107, 3, none⟩ (.slice Ao37 y104.length co37)) = w40 at n0_ n1_ n2_ ⊢
                  have HO106 := n0_
                  have BK107 := n1_
                  have HB := n2_
                  clear n0_ n1_ n2_
                  have n0_ := Aside0.mk (Kd.N_drew HO106.out)
                  have n1_ := Aside0.mk (blk_drew BK107.out)
                  have n2_ := Aside0.mk (below_drew1 HB.out)
                  clear HO106
                  clear BK107
                  clear HB
                  have HO106 := n0_
                  have BK107 := n1_
                  have HB := n2_
                  clear n0_ n1_ n2_
                  have p121 : 0 ≤ (0 : Int) := (by omega)
                  have q121 : 0 < (y104.length : Int) := of_decide_eq_true (by first | (with_reducible assumption) | assumption)
                  obtain ⟨ad121, A121_3, c121_3, e121, hx121_0, hx121_1, hx121_2, hx121_3, hl121_3, hi121_3⟩ := at_T24 (Kd.N_reads' HO106.out).2.2 0 p121 q121
                  cases e121
                  obtain ⟨ce121, hce121, hMe121, hcc121⟩ := Kd.N_get HO106.out z24 0 p121 (by first | exact q121 | exact of_decide_eq_true (by first | (with_reducible assumption) | assumption) | (have e_ := (Kd.N_reads' HO106.out).1; omega))
                  obtain ⟨ua121_3, uc121_3, rfl, ul121_3, ge121_3⟩ := k24_openF hMe121
                  have hv121_3 := hcc121 3 _ rfl
                  rw [add_field _ _ 3 (by omega)] at hv121_3
                  replace hv121_3 := Option.some.inj (hv121_3.symm.trans hx121_3)
                  injection hv121_3 with hva_ hvn_ hvc_
                  rw [hva_] at ge121_3
                  rw [hvc_] at ul121_3
                  have HL121_3 := Aside0.mk (show Kd.V k24 24 _ w.heap.size _ _ ((rd_T24 y104 0).f3) from Kd.V_mk ul121_3 ge121_3)
                  clear hva_ hvn_ hvc_ ge121_3 ul121_3
                  clear hcc121 hce121
                  have qi121 : (0 < y104.length) = True := eq_true (by omega)
                  (try rw [show ((0 : Int)).toNat = 0 from rfl] at hx121_0)
                  (try rw [show 0 * 4 = 0 from rfl] at hx121_0)
                  (try rw [Addr.add_zero'] at hx121_0)
                  (try rw [show ((0 : Int)).toNat = 0 from rfl] at hx121_1)
                  (try rw [show 0 * 4 = 0 from rfl] at hx121_1)
                  (try rw [Addr.add_zero'] at hx121_1)
                  (try rw [show ((0 : Int)).toNat = 0 from rfl] at hx121_2)
                  (try rw [show 0 * 4 = 0 from rfl] at hx121_2)
                  (try rw [Addr.add_zero'] at hx121_2)
                  (try rw [show ((0 : Int)).toNat = 0 from rfl] at hx121_3)
                  (try rw [show 0 * 4 = 0 from rfl] at hx121_3)
                  (try rw [Addr.add_zero'] at hx121_3)
                  have HR121_3 := Aside0.mk hi121_3
                  have HC121_3 := Aside0.mk hl121_3
                  clear hi121_3 hl121_3
                  replace p121 := eq_true p121
                  replace q121 := eq_true q121
                  refine start_ (n := 43) (S := fun w' => w'.cell? ⟨gb107, 0, none⟩ = some (.int .i64 3) ∧ w'.cell? ⟨gb107, 1, none⟩ = some (.string (⟨#[]⟩ : ByteArray)) ∧ w'.cell? ⟨gb107, 2, none⟩ = some (.string (⟨#[]⟩ : ByteArray)) ∧ w'.cell? ⟨gb107, 3, none⟩ = some (.slice (some ad121) y104.length co37) ∧ w'.cell? ad121 = some (.int .i64 ((rd_T24 y104 0).f0)) ∧ w'.cell? ⟨ad121.block, ad121.off + 1, none⟩ = some (.string ((rd_T24 y104 0).f1)) ∧ w'.cell? ⟨ad121.block, ad121.off + 2, none⟩ = some (.string ((rd_T24 y104 0).f2)) ∧ w'.cell? ⟨ad121.block, ad121.off + 3, none⟩ = some (.slice A121_3 ((rd_T24 y104 0).f3).length c121_3)) (ds := []) #[false, false, false, false, false, false, false, false, false, false, false, false, false, false, false, false, false, false, false, false, false, false, false, false, false, false, false, false, false, false, false, false, false, false, false, false, false, false, false, false, false, false, false] (by kernel_rfl) rfl rfl ⟨(blk_cell BK107.out 0).trans rfl, (blk_cell BK107.out 1).trans rfl, (blk_cell BK107.out 2).trans rfl, (blk_cell BK107.out 3).trans rfl, hx121_0, hx121_1, hx121_2, hx121_3⟩ (fun hHeld => ?_); refine with_tabW vestrylaw10_awake.tab2 vestrylaw10_awake.bits2 (fun HT_ HW_ => ?_)
                  generalize w40.drew = w41 at HO106 BK107 HB HL121_3 HR121_3 hx121_0 hx121_1 hx121_2 hx121_3 hHeld ⊢
                  refine take_ (i := 0) (N := some 9) (v := ?_) (a' := ?_) #[true, false, false, false, false, false, false, false, false, false, false, false, false, false, false, false, false, false, false, false, false, false, false, false, false, false, false, false, false, false, false, false, false, false, false, false, false, false, false, false, false, false, false] rfl rfl (take_ofW HT_.out HW_.out (by kernel_rfl)) (fun _ _ _ h => h) (Or.inl ⟨by rfl, ?_⟩) hHeld ?_ ?_
                  rotate_left
                  · rintro w' ⟨s0, s1, s2, s3, s4, s5, s6, s7⟩
                    go_simp
                    with_reducible rfl
                  rotate_left
                  · simp only [Act.put, List.setIfInBounds_toArray, List.set_cons_zero, List.set_cons_succ, i64_w, i32_w]
                    rfl
                  refine one_ (i := 1) (N := some 10) #[true, true, false, false, false, false, false, false, false, false, false, false, false, false, false, false, false, false, false, false, false, false, false, false, false, false, false, false, false, false, false, false, false, false, false, false, false, false, false, false, false, false, false] rfl rfl (one_of HT_.out (by kernel_rfl)) (by decide) (fun K hK => ?_)
                  refine goes_ Tryd.func20 (by kernel_rfl) rfl #[.agg #[.int .i64 3, .string (⟨#[]⟩ : ByteArray), .string (⟨#[]⟩ : ByteArray), .slice (some ad121) y104.length co37]] (by rfl) rfl rfl (by (try simp only [List.map_toArray, List.map_cons, List.map_nil]); first | done | rfl | (simp only [List.length_drop, List.length_take]; rfl)) ?_
                  with_reducible refine (expr_Text.calls k 3 (⟨#[]⟩ : ByteArray) (⟨#[]⟩ : ByteArray) _ _ y104 t108 _ ?sideL ?side1 ?side2 A1.out).mono ?_
                  (case sideL => exact HL.out.below (by repeat (first | (with_reducible first | exact HB.out | exact Below.refl _ _ | apply below_alloc | apply pw_below_drewN | apply below_drew1 | refine below_set ?_ GE107.out) | exact HB.out)))
                  (case side1 => repeat (first | exact (Kd.N_reads' HO106.out).2.2 | (with_reducible refine Kd.C_alloc ?_ _) | (with_reducible refine Kd.C_drewN ?_ _) | (with_reducible refine Kd.C_drew ?_)))
                  (case side2 => exact (Kd.N_reads' HO106.out).2.1)
                  rintro e w42 ⟨rfl, hb⟩
                  have HS4_ := (hb.cell (World.block_lt_of_cell? _ _ (hHeld.2.2.2.2.1))).trans (hHeld.2.2.2.2.1)
                  have HS5_ := (hb.cell (World.block_lt_of_cell? _ _ (hHeld.2.2.2.2.2.1))).trans (hHeld.2.2.2.2.2.1)
                  have HS6_ := (hb.cell (World.block_lt_of_cell? _ _ (hHeld.2.2.2.2.2.2.1))).trans (hHeld.2.2.2.2.2.2.1)
                  have HS7_ := (hb.cell (World.block_lt_of_cell? _ _ (hHeld.2.2.2.2.2.2.2))).trans (hHeld.2.2.2.2.2.2.2)
                  refine ⟨_, rfl, ?_⟩
                  have n0_ := Aside0.mk (Kd.N_below (by (with_reducible repeat (first | apply Kd.N_alloc | apply Kd.N_drewN | apply Kd.N_drew)); exact HO106.out) hb)
                  have n1_ := Aside0.mk (blk_below (g := gb107) (o := .cells #[.int .i64 3, .string (⟨#[]⟩ : ByteArray), .string (⟨#[]⟩ : ByteArray), .slice (some ad121) y104.length co37] 24 (0, 0)) (by (with_reducible repeat (first | refine blk_drewN ?_ _ | refine blk_drew ?_ | refine blk_alloc ?_ _)); exact BK107.out) hb)
                  have n2_ := Aside0.mk (below_step (by repeat (first | (with_reducible first | exact HB.out | apply below_alloc | apply pw_below_drewN | apply below_drew1 | refine below_set ?_ GE107.out) | exact HB.out)) hb)
                  clear HO106
                  clear BK107
                  clear HB
                  have HO106 := n0_
                  have BK107 := n1_
                  have HB := n2_
                  clear n0_ n1_ n2_
                  (try clear hb)
                  (try clear hb2)
                  (try clear hk)
                  (try clear hi)
                  refine hK.out _ _ ⟨(blk_cell BK107.out 0).trans rfl, (blk_cell BK107.out 1).trans rfl, (blk_cell BK107.out 2).trans rfl, (blk_cell BK107.out 3).trans rfl, HS4_, HS5_, HS6_, HS7_⟩ (fun hHeld => ?_)
                  clear hK K
                  refine norm_ (a' := ?_) ?_ ?_
                  rotate_left
                  · show Act.put _ (some 10) _ = _
                    simp only [Act.put, List.setIfInBounds_toArray, List.set_cons_zero, List.set_cons_succ, i64_w, i32_w]
                    rfl
                  refine pure_ (i := 2) (N := some 11) (v := ?_) (a' := ?_) #[true, true, true, false, false, false, false, false, false, false, false, false, false, false, false, false, false, false, false, false, false, false, false, false, false, false, false, false, false, false, false, false, false, false, false, false, false, false, false, false, false, false, false] rfl rfl (any_of HT_.out (by kernel_rfl)) (fun _ _ _ h => h) (Or.inl ⟨by rfl, ?_⟩) ?_ ?_
                  rotate_left
                  · intro w'
                    go_simp
                    with_reducible rfl
                  rotate_left
                  · simp only [Act.put, List.setIfInBounds_toArray, List.set_cons_zero, List.set_cons_succ, i64_w, i32_w]
                    rfl
                  refine pure_ (i := 3) (N := some 12) (v := ?_) (a' := ?_) #[true, true, true, true, false, false, false, false, false, false, false, false, false, false, false, false, false, false, false, false, false, false, false, false, false, false, false, false, false, false, false, false, false, false, false, false, false, false, false, false, false, false, false] rfl rfl (any_of HT_.out (by kernel_rfl)) (fun _ _ _ h => h) (Or.inl ⟨by rfl, ?_⟩) ?_ ?_
                  rotate_left
                  · intro w'
                    go_simp
                    with_reducible rfl
                  rotate_left
                  · simp only [Act.put, List.setIfInBounds_toArray, List.set_cons_zero, List.set_cons_succ, i64_w, i32_w]
                    rfl
                  refine take_ (i := 4) (N := some 13) (v := ?_) (a' := ?_) #[true, true, true, true, true, false, false, false, false, false, false, false, false, false, false, false, false, false, false, false, false, false, false, false, false, false, false, false, false, false, false, false, false, false, false, false, false, false, false, false, false, false, false] rfl rfl (take_ofW HT_.out HW_.out (by kernel_rfl)) (fun _ _ _ h => h) (Or.inl ⟨by rfl, ?_⟩) hHeld ?_ ?_
                  rotate_left
                  · rintro w' ⟨s0, s1, s2, s3, s4, s5, s6, s7⟩
                    go_simp
                    with_reducible rfl
                  rotate_left
                  · simp only [Act.put, List.setIfInBounds_toArray, List.set_cons_zero, List.set_cons_succ, i64_w, i32_w]
                    rfl
                  refine one_ (i := 5) (N := some 14) #[true, true, true, true, true, true, false, false, false, false, false, false, false, false, false, false, false, false, false, false, false, false, false, false, false, false, false, false, false, false, false, false, false, false, false, false, false, false, false, false, false, false, false] rfl rfl (one_of HT_.out (by kernel_rfl)) (by decide) (fun K hK => ?_)
                  refine goes_ Tryd.func17 (by kernel_rfl) rfl #[.agg #[.int .i64 3, .string (⟨#[]⟩ : ByteArray), .string (⟨#[]⟩ : ByteArray), .slice (some ad121) y104.length co37]] (by rfl) rfl rfl (by (try simp only [List.map_toArray, List.map_cons, List.map_nil]); first | done | rfl | (simp only [List.length_drop, List.length_take]; rfl)) ?_
                  with_reducible refine (expr_Right.calls k 3 (⟨#[]⟩ : ByteArray) (⟨#[]⟩ : ByteArray) _ _ y104 true _ ?sideL ?side1 ?side2 A3.out).mono ?_
                  (case sideL => exact HL.out.below (by repeat (first | (with_reducible first | exact HB.out | exact Below.refl _ _ | apply below_alloc | apply pw_below_drewN | apply below_drew1 | refine below_set ?_ GE107.out) | exact HB.out)))
                  (case side1 => repeat (first | exact (Kd.N_reads' HO106.out).2.2 | (with_reducible refine Kd.C_alloc ?_ _) | (with_reducible refine Kd.C_drewN ?_ _) | (with_reducible refine Kd.C_drew ?_)))
                  (case side2 => exact (Kd.N_reads' HO106.out).2.1)
                  rintro e w43 ⟨rfl, hb⟩
                  have HS4_ := (hb.cell (World.block_lt_of_cell? _ _ (hHeld.2.2.2.2.1))).trans (hHeld.2.2.2.2.1)
                  have HS5_ := (hb.cell (World.block_lt_of_cell? _ _ (hHeld.2.2.2.2.2.1))).trans (hHeld.2.2.2.2.2.1)
                  have HS6_ := (hb.cell (World.block_lt_of_cell? _ _ (hHeld.2.2.2.2.2.2.1))).trans (hHeld.2.2.2.2.2.2.1)
                  have HS7_ := (hb.cell (World.block_lt_of_cell? _ _ (hHeld.2.2.2.2.2.2.2))).trans (hHeld.2.2.2.2.2.2.2)
                  refine ⟨_, rfl, ?_⟩
                  have n0_ := Aside0.mk (Kd.N_below (by (with_reducible repeat (first | apply Kd.N_alloc | apply Kd.N_drewN | apply Kd.N_drew)); exact HO106.out) hb)
                  have n1_ := Aside0.mk (blk_below (g := gb107) (o := .cells #[.int .i64 3, .string (⟨#[]⟩ : ByteArray), .string (⟨#[]⟩ : ByteArray), .slice (some ad121) y104.length co37] 24 (0, 0)) (by (with_reducible repeat (first | refine blk_drewN ?_ _ | refine blk_drew ?_ | refine blk_alloc ?_ _)); exact BK107.out) hb)
                  have n2_ := Aside0.mk (below_step (by repeat (first | (with_reducible first | exact HB.out | apply below_alloc | apply pw_below_drewN | apply below_drew1 | refine below_set ?_ GE107.out) | exact HB.out)) hb)
                  clear HO106
                  clear BK107
                  clear HB
                  have HO106 := n0_
                  have BK107 := n1_
                  have HB := n2_
                  clear n0_ n1_ n2_
                  (try clear hb)
                  (try clear hb2)
                  (try clear hk)
                  (try clear hi)
                  refine hK.out _ _ ⟨(blk_cell BK107.out 0).trans rfl, (blk_cell BK107.out 1).trans rfl, (blk_cell BK107.out 2).trans rfl, (blk_cell BK107.out 3).trans rfl, HS4_, HS5_, HS6_, HS7_⟩ (fun hHeld => ?_)
                  clear hK K
                  refine norm_ (a' := ?_) ?_ ?_
                  rotate_left
                  · show Act.put _ (some 14) _ = _
                    simp only [Act.put, List.setIfInBounds_toArray, List.set_cons_zero, List.set_cons_succ, i64_w, i32_w]
                    rfl
                  refine pure_ (i := 6) (N := some 15) (v := ?_) (a' := ?_) #[true, true, true, true, true, true, true, false, false, false, false, false, false, false, false, false, false, false, false, false, false, false, false, false, false, false, false, false, false, false, false, false, false, false, false, false, false, false, false, false, false, false, false] rfl rfl (any_of HT_.out (by kernel_rfl)) (fun _ _ _ h => h) (Or.inl ⟨by rfl, ?_⟩) ?_ ?_
                  rotate_left
                  · intro w'
                    go_simp
                    with_reducible rfl
                  rotate_left
                  · simp only [Act.put, List.setIfInBounds_toArray, List.set_cons_zero, List.set_cons_succ, i64_w, i32_w]
                    rfl
                  refine pure_ (i := 7) (N := some 16) (v := ?_) (a' := ?_) #[true, true, true, true, true, true, true, true, false, false, false, false, false, false, false, false, false, false, false, false, false, false, false, false, false, false, false, false, false, false, false, false, false, false, false, false, false, false, false, false, false, false, false] rfl rfl (any_of HT_.out (by kernel_rfl)) (fun _ _ _ h => h) (Or.inl ⟨by rfl, ?_⟩) ?_ ?_
                  rotate_left
                  · intro w'
                    go_simp
                    with_reducible rfl
                  rotate_left
                  · simp only [Act.put, List.setIfInBounds_toArray, List.set_cons_zero, List.set_cons_succ, i64_w, i32_w]
                    rfl
                  refine take_ (i := 8) (N := some 17) (v := ?_) (a' := ?_) #[true, true, true, true, true, true, true, true, true, false, false, false, false, false, false, false, false, false, false, false, false, false, false, false, false, false, false, false, false, false, false, false, false, false, false, false, false, false, false, false, false, false, false] rfl rfl (take_ofW HT_.out HW_.out (by kernel_rfl)) (fun _ _ _ h => h) (Or.inl ⟨by rfl, ?_⟩) hHeld ?_ ?_
                  rotate_left
                  · rintro w' ⟨s0, s1, s2, s3, s4, s5, s6, s7⟩
                    go_simp
                    with_reducible rfl
                  rotate_left
                  · simp only [Act.put, List.setIfInBounds_toArray, List.set_cons_zero, List.set_cons_succ, i64_w, i32_w]
                    rfl
                  refine one_ (i := 9) (N := some 18) #[true, true, true, true, true, true, true, true, true, true, false, false, false, false, false, false, false, false, false, false, false, false, false, false, false, false, false, false, false, false, false, false, false, false, false, false, false, false, false, false, false, false, false] rfl rfl (one_of HT_.out (by kernel_rfl)) (by decide) (fun K hK => ?_)
                  refine goes_ Tryd.func18 (by kernel_rfl) rfl #[.agg #[.int .i64 3, .string (⟨#[]⟩ : ByteArray), .string (⟨#[]⟩ : ByteArray), .slice (some ad121) y104.length co37]] (by rfl) rfl rfl (by (try simp only [List.map_toArray, List.map_cons, List.map_nil]); first | done | rfl | (simp only [List.length_drop, List.length_take]; rfl)) ?_
                  with_reducible refine (expr_Depth.calls k 3 (⟨#[]⟩ : ByteArray) (⟨#[]⟩ : ByteArray) _ _ y104 t110 _ ?side1 ?side2 A5.out).mono ?_
                  (case side1 => repeat (first | exact (Kd.N_reads' HO106.out).2.2 | (with_reducible refine Kd.C_alloc ?_ _) | (with_reducible refine Kd.C_drewN ?_ _) | (with_reducible refine Kd.C_drew ?_)))
                  (case side2 => exact (Kd.N_reads' HO106.out).2.1)
                  rintro e w44 ⟨rfl, hb⟩
                  have HS4_ := (hb.cell (World.block_lt_of_cell? _ _ (hHeld.2.2.2.2.1))).trans (hHeld.2.2.2.2.1)
                  have HS5_ := (hb.cell (World.block_lt_of_cell? _ _ (hHeld.2.2.2.2.2.1))).trans (hHeld.2.2.2.2.2.1)
                  have HS6_ := (hb.cell (World.block_lt_of_cell? _ _ (hHeld.2.2.2.2.2.2.1))).trans (hHeld.2.2.2.2.2.2.1)
                  have HS7_ := (hb.cell (World.block_lt_of_cell? _ _ (hHeld.2.2.2.2.2.2.2))).trans (hHeld.2.2.2.2.2.2.2)
                  refine ⟨_, rfl, ?_⟩
                  have n0_ := Aside0.mk (Kd.N_below (by (with_reducible repeat (first | apply Kd.N_alloc | apply Kd.N_drewN | apply Kd.N_drew)); exact HO106.out) hb)
                  have n1_ := Aside0.mk (blk_below (g := gb107) (o := .cells #[.int .i64 3, .string (⟨#[]⟩ : ByteArray), .string (⟨#[]⟩ : ByteArray), .slice (some ad121) y104.length co37] 24 (0, 0)) (by (with_reducible repeat (first | refine blk_drewN ?_ _ | refine blk_drew ?_ | refine blk_alloc ?_ _)); exact BK107.out) hb)
                  have n2_ := Aside0.mk (below_step (by repeat (first | (with_reducible first | exact HB.out | apply below_alloc | apply pw_below_drewN | apply below_drew1 | refine below_set ?_ GE107.out) | exact HB.out)) hb)
                  clear HO106
                  clear BK107
                  clear HB
                  have HO106 := n0_
                  have BK107 := n1_
                  have HB := n2_
                  clear n0_ n1_ n2_
                  (try clear hb)
                  (try clear hb2)
                  (try clear hk)
                  (try clear hi)
                  refine hK.out _ _ ⟨(blk_cell BK107.out 0).trans rfl, (blk_cell BK107.out 1).trans rfl, (blk_cell BK107.out 2).trans rfl, (blk_cell BK107.out 3).trans rfl, HS4_, HS5_, HS6_, HS7_⟩ (fun hHeld => ?_)
                  clear hK K
                  refine norm_ (a' := ?_) ?_ ?_
                  rotate_left
                  · show Act.put _ (some 18) _ = _
                    simp only [Act.put, List.setIfInBounds_toArray, List.set_cons_zero, List.set_cons_succ, i64_w, i32_w]
                    rfl
                  refine pure_ (i := 10) (N := some 19) (v := ?_) (a' := ?_) #[true, true, true, true, true, true, true, true, true, true, true, false, false, false, false, false, false, false, false, false, false, false, false, false, false, false, false, false, false, false, false, false, false, false, false, false, false, false, false, false, false, false, false] rfl rfl (any_of HT_.out (by kernel_rfl)) (fun _ _ _ h => h) (Or.inl ⟨by rfl, ?_⟩) ?_ ?_
                  rotate_left
                  · intro w'
                    go_simp
                    with_reducible rfl
                  rotate_left
                  · simp only [Act.put, List.setIfInBounds_toArray, List.set_cons_zero, List.set_cons_succ, i64_w, i32_w]
                    rfl
                  refine pure_ (i := 11) (N := some 20) (v := ?_) (a' := ?_) #[true, true, true, true, true, true, true, true, true, true, true, true, false, false, false, false, false, false, false, false, false, false, false, false, false, false, false, false, false, false, false, false, false, false, false, false, false, false, false, false, false, false, false] rfl rfl (any_of HT_.out (by kernel_rfl)) (fun _ _ _ h => h) (Or.inl ⟨by rfl, ?_⟩) ?_ ?_
                  rotate_left
                  · intro w'
                    go_simp
                    with_reducible rfl
                  rotate_left
                  · simp only [Act.put, List.setIfInBounds_toArray, List.set_cons_zero, List.set_cons_succ, i64_w, i32_w]
                    rfl
                  refine pure_ (i := 12) (N := some 21) (v := ?_) (a' := ?_) #[true, true, true, true, true, true, true, true, true, true, true, true, true, false, false, false, false, false, false, false, false, false, false, false, false, false, false, false, false, false, false, false, false, false, false, false, false, false, false, false, false, false, false] rfl rfl (any_of HT_.out (by kernel_rfl)) (fun _ _ _ h => h) (Or.inl ⟨by rfl, ?_⟩) ?_ ?_
                  rotate_left
                  · intro w'
                    go_simp
                    with_reducible rfl
                  rotate_left
                  · simp only [Act.put, List.setIfInBounds_toArray, List.set_cons_zero, List.set_cons_succ, i64_w, i32_w]
                    rfl
                  refine pure_ (i := 13) (N := some 22) (v := ?_) (a' := ?_) #[true, true, true, true, true, true, true, true, true, true, true, true, true, true, false, false, false, false, false, false, false, false, false, false, false, false, false, false, false, false, false, false, false, false, false, false, false, false, false, false, false, false, false] rfl rfl (any_of HT_.out (by kernel_rfl)) (fun _ _ _ h => h) (Or.inl ⟨by rfl, ?_⟩) ?_ ?_
                  rotate_left
                  · intro w'
                    go_simp
                    with_reducible rfl
                  rotate_left
                  · simp only [Act.put, List.setIfInBounds_toArray, List.set_cons_zero, List.set_cons_succ, i64_w, i32_w]
                    rfl
                  refine one_ (i := 14) (N := some 23) #[true, true, true, true, true, true, true, true, true, true, true, true, true, true, true, false, false, false, false, false, false, false, false, false, false, false, false, false, false, false, false, false, false, false, false, false, false, false, false, false, false, false, false] rfl rfl (one_of HT_.out (by kernel_rfl)) (by decide) (fun K hK => ?_)
                  refine goes_ Tryd.func17 (by kernel_rfl) rfl #[.agg #[.int .i64 0, .string (⟨#[]⟩ : ByteArray), .string (⟨#[]⟩ : ByteArray), .slice none 0 0]] (by rfl) rfl rfl (by (try simp only [List.map_toArray, List.map_cons, List.map_nil]); first | done | rfl | (simp only [List.length_drop, List.length_take]; rfl)) ?_
                  refine (expr_Right.calls k 0 (⟨#[]⟩ : ByteArray) (⟨#[]⟩ : ByteArray) _ _ ([] : List (S24)) false _ ?sideL ?side1 ?side2 A7.out).mono ?_
                  (case sideL => exact HL.out.below (by repeat (first | (with_reducible first | exact HB.out | exact Below.refl _ _ | apply below_alloc | apply pw_below_drewN | apply below_drew1 | refine below_set ?_ GE107.out) | exact HB.out)))
                  (case side1 => exact Kd.C_nil _ _)
                  (case side2 => exact Nat.le_refl _)
                  rintro e w45 ⟨rfl, hb⟩
                  have HS4_ := (hb.cell (World.block_lt_of_cell? _ _ (hHeld.2.2.2.2.1))).trans (hHeld.2.2.2.2.1)
                  have HS5_ := (hb.cell (World.block_lt_of_cell? _ _ (hHeld.2.2.2.2.2.1))).trans (hHeld.2.2.2.2.2.1)
                  have HS6_ := (hb.cell (World.block_lt_of_cell? _ _ (hHeld.2.2.2.2.2.2.1))).trans (hHeld.2.2.2.2.2.2.1)
                  have HS7_ := (hb.cell (World.block_lt_of_cell? _ _ (hHeld.2.2.2.2.2.2.2))).trans (hHeld.2.2.2.2.2.2.2)
                  refine ⟨_, rfl, ?_⟩
                  have n0_ := Aside0.mk (Kd.N_below (by (with_reducible repeat (first | apply Kd.N_alloc | apply Kd.N_drewN | apply Kd.N_drew)); exact HO106.out) hb)
                  have n1_ := Aside0.mk (blk_below (g := gb107) (o := .cells #[.int .i64 3, .string (⟨#[]⟩ : ByteArray), .string (⟨#[]⟩ : ByteArray), .slice (some ad121) y104.length co37] 24 (0, 0)) (by (with_reducible repeat (first | refine blk_drewN ?_ _ | refine blk_drew ?_ | refine blk_alloc ?_ _)); exact BK107.out) hb)
                  have n2_ := Aside0.mk (below_step (by repeat (first | (with_reducible first | exact HB.out | apply below_alloc | apply pw_below_drewN | apply below_drew1 | refine below_set ?_ GE107.out) | exact HB.out)) hb)
                  clear HO106
                  clear BK107
                  clear HB
                  have HO106 := n0_
                  have BK107 := n1_
                  have HB := n2_
                  clear n0_ n1_ n2_
                  (try clear hb)
                  (try clear hb2)
                  (try clear hk)
                  (try clear hi)
                  refine hK.out _ _ ⟨(blk_cell BK107.out 0).trans rfl, (blk_cell BK107.out 1).trans rfl, (blk_cell BK107.out 2).trans rfl, (blk_cell BK107.out 3).trans rfl, HS4_, HS5_, HS6_, HS7_⟩ (fun hHeld => ?_)
                  clear hK K
                  refine norm_ (a' := ?_) ?_ ?_
                  rotate_left
                  · show Act.put _ (some 23) _ = _
                    simp only [Act.put, List.setIfInBounds_toArray, List.set_cons_zero, List.set_cons_succ, i64_w, i32_w]
                    rfl
                  refine pure_ (i := 15) (N := some 24) (v := ?_) (a' := ?_) #[true, true, true, true, true, true, true, true, true, true, true, true, true, true, true, true, false, false, false, false, false, false, false, false, false, false, false, false, false, false, false, false, false, false, false, false, false, false, false, false, false, false, false] rfl rfl (any_of HT_.out (by kernel_rfl)) (fun _ _ _ h => h) (Or.inl ⟨by rfl, ?_⟩) ?_ ?_
                  rotate_left
                  · intro w'
                    go_simp
                    with_reducible rfl
                  rotate_left
                  · simp only [Act.put, List.setIfInBounds_toArray, List.set_cons_zero, List.set_cons_succ, i64_w, i32_w]
                    rfl
                  refine pure_ (i := 16) (N := some 25) (v := ?_) (a' := ?_) #[true, true, true, true, true, true, true, true, true, true, true, true, true, true, true, true, true, false, false, false, false, false, false, false, false, false, false, false, false, false, false, false, false, false, false, false, false, false, false, false, false, false, false] rfl rfl (any_of HT_.out (by kernel_rfl)) (fun _ _ _ h => h) (Or.inl ⟨by rfl, ?_⟩) ?_ ?_
                  rotate_left
                  · intro w'
                    go_simp
                    with_reducible rfl
                  rotate_left
                  · simp only [Act.put, List.setIfInBounds_toArray, List.set_cons_zero, List.set_cons_succ, i64_w, i32_w]
                    rfl
                  refine pure_ (i := 17) (N := some 26) (v := ?_) (a' := ?_) #[true, true, true, true, true, true, true, true, true, true, true, true, true, true, true, true, true, true, false, false, false, false, false, false, false, false, false, false, false, false, false, false, false, false, false, false, false, false, false, false, false, false, false] rfl rfl (any_of HT_.out (by kernel_rfl)) (fun _ _ _ h => h) (Or.inl ⟨by rfl, ?_⟩) ?_ ?_
                  rotate_left
                  · intro w'
                    go_simp
                    with_reducible rfl
                  rotate_left
                  · simp only [Act.put, List.setIfInBounds_toArray, List.set_cons_zero, List.set_cons_succ, i64_w, i32_w]
                    rfl
                  refine pure_ (i := 18) (N := some 27) (v := ?_) (a' := ?_) #[true, true, true, true, true, true, true, true, true, true, true, true, true, true, true, true, true, true, true, false, false, false, false, false, false, false, false, false, false, false, false, false, false, false, false, false, false, false, false, false, false, false, false] rfl rfl (any_of HT_.out (by kernel_rfl)) (fun _ _ _ h => h) (Or.inl ⟨by rfl, ?_⟩) ?_ ?_
                  rotate_left
                  · intro w'
                    go_simp
                    with_reducible rfl
                  rotate_left
                  · simp only [Act.put, List.setIfInBounds_toArray, List.set_cons_zero, List.set_cons_succ, i64_w, i32_w]
                    rfl
                  refine one_ (i := 19) (N := some 28) #[true, true, true, true, true, true, true, true, true, true, true, true, true, true, true, true, true, true, true, true, false, false, false, false, false, false, false, false, false, false, false, false, false, false, false, false, false, false, false, false, false, false, false] rfl rfl (one_of HT_.out (by kernel_rfl)) (by decide) (fun K hK => ?_)
                  refine goes_ Tryd.func20 (by kernel_rfl) rfl #[.agg #[.int .i64 0, .string (⟨#[]⟩ : ByteArray), .string (⟨#[]⟩ : ByteArray), .slice none 0 0]] (by rfl) rfl rfl (by (try simp only [List.map_toArray, List.map_cons, List.map_nil]); first | done | rfl | (simp only [List.length_drop, List.length_take]; rfl)) ?_
                  refine (expr_Text.calls k 0 (⟨#[]⟩ : ByteArray) (⟨#[]⟩ : ByteArray) _ _ ([] : List (S24)) t112 _ ?sideL ?side1 ?side2 A23.out).mono ?_
                  (case sideL => exact HL.out.below (by repeat (first | (with_reducible first | exact HB.out | exact Below.refl _ _ | apply below_alloc | apply pw_below_drewN | apply below_drew1 | refine below_set ?_ GE107.out) | exact HB.out)))
                  (case side1 => exact Kd.C_nil _ _)
                  (case side2 => exact Nat.le_refl _)
                  rintro e w46 ⟨rfl, hb⟩
                  have HS4_ := (hb.cell (World.block_lt_of_cell? _ _ (hHeld.2.2.2.2.1))).trans (hHeld.2.2.2.2.1)
                  have HS5_ := (hb.cell (World.block_lt_of_cell? _ _ (hHeld.2.2.2.2.2.1))).trans (hHeld.2.2.2.2.2.1)
                  have HS6_ := (hb.cell (World.block_lt_of_cell? _ _ (hHeld.2.2.2.2.2.2.1))).trans (hHeld.2.2.2.2.2.2.1)
                  have HS7_ := (hb.cell (World.block_lt_of_cell? _ _ (hHeld.2.2.2.2.2.2.2))).trans (hHeld.2.2.2.2.2.2.2)
                  refine ⟨_, rfl, ?_⟩
                  have n0_ := Aside0.mk (Kd.N_below (by (with_reducible repeat (first | apply Kd.N_alloc | apply Kd.N_drewN | apply Kd.N_drew)); exact HO106.out) hb)
                  have n1_ := Aside0.mk (blk_below (g := gb107) (o := .cells #[.int .i64 3, .string (⟨#[]⟩ : ByteArray), .string (⟨#[]⟩ : ByteArray), .slice (some ad121) y104.length co37] 24 (0, 0)) (by (with_reducible repeat (first | refine blk_drewN ?_ _ | refine blk_drew ?_ | refine blk_alloc ?_ _)); exact BK107.out) hb)
                  have n2_ := Aside0.mk (below_step (by repeat (first | (with_reducible first | exact HB.out | apply below_alloc | apply pw_below_drewN | apply below_drew1 | refine below_set ?_ GE107.out) | exact HB.out)) hb)
                  clear HO106
                  clear BK107
                  clear HB
                  have HO106 := n0_
                  have BK107 := n1_
                  have HB := n2_
                  clear n0_ n1_ n2_
                  (try clear hb)
                  (try clear hb2)
                  (try clear hk)
                  (try clear hi)
                  refine hK.out _ _ ⟨(blk_cell BK107.out 0).trans rfl, (blk_cell BK107.out 1).trans rfl, (blk_cell BK107.out 2).trans rfl, (blk_cell BK107.out 3).trans rfl, HS4_, HS5_, HS6_, HS7_⟩ (fun hHeld => ?_)
                  clear hK K
                  refine norm_ (a' := ?_) ?_ ?_
                  rotate_left
                  · show Act.put _ (some 28) _ = _
                    simp only [Act.put, List.setIfInBounds_toArray, List.set_cons_zero, List.set_cons_succ, i64_w, i32_w]
                    rfl
                  refine pure_ (i := 20) (N := some 29) (v := ?_) (a' := ?_) #[true, true, true, true, true, true, true, true, true, true, true, true, true, true, true, true, true, true, true, true, true, false, false, false, false, false, false, false, false, false, false, false, false, false, false, false, false, false, false, false, false, false, false] rfl rfl (any_of HT_.out (by kernel_rfl)) (fun _ _ _ h => h) (Or.inl ⟨by rfl, ?_⟩) ?_ ?_
                  rotate_left
                  · intro w'
                    go_simp
                    with_reducible rfl
                  rotate_left
                  · simp only [Act.put, List.setIfInBounds_toArray, List.set_cons_zero, List.set_cons_succ, i64_w, i32_w]
                    rfl
                  refine pure_ (i := 21) (N := some 30) (v := ?_) (a' := ?_) #[true, true, true, true, true, true, true, true, true, true, true, true, true, true, true, true, true, true, true, true, true, true, false, false, false, false, false, false, false, false, false, false, false, false, false, false, false, false, false, false, false, false, false] rfl rfl (any_of HT_.out (by kernel_rfl)) (fun _ _ _ h => h) (Or.inl ⟨by rfl, ?_⟩) ?_ ?_
                  rotate_left
                  · intro w'
                    go_simp
                    with_reducible rfl
                  rotate_left
                  · simp only [Act.put, List.setIfInBounds_toArray, List.set_cons_zero, List.set_cons_succ, i64_w, i32_w]
                    rfl
                  refine pure_ (i := 22) (N := some 31) (v := ?_) (a' := ?_) #[true, true, true, true, true, true, true, true, true, true, true, true, true, true, true, true, true, true, true, true, true, true, true, false, false, false, false, false, false, false, false, false, false, false, false, false, false, false, false, false, false, false, false] rfl rfl (any_of HT_.out (by kernel_rfl)) (fun _ _ _ h => h) (Or.inl ⟨by rfl, ?_⟩) ?_ ?_
                  rotate_left
                  · intro w'
                    go_simp
                    with_reducible rfl
                  rotate_left
                  · simp only [Act.put, List.setIfInBounds_toArray, List.set_cons_zero, List.set_cons_succ, i64_w, i32_w]
                    rfl
                  refine take_ (i := 23) (N := some 32) (v := ?_) (a' := ?_) #[true, true, true, true, true, true, true, true, true, true, true, true, true, true, true, true, true, true, true, true, true, true, true, true, false, false, false, false, false, false, false, false, false, false, false, false, false, false, false, false, false, false, false] rfl rfl (take_ofW HT_.out HW_.out (by kernel_rfl)) (fun _ _ _ h => h) (Or.inl ⟨by rfl, ?_⟩) hHeld ?_ ?_
                  rotate_left
                  · rintro w' ⟨s0, s1, s2, s3, s4, s5, s6, s7⟩
                    go_simp
                    with_reducible rfl
                  rotate_left
                  · simp only [Act.put, List.setIfInBounds_toArray, List.set_cons_zero, List.set_cons_succ, i64_w, i32_w]
                    rfl
                  refine take_ (i := 24) (N := some 33) (v := ?_) (a' := ?_) #[true, true, true, true, true, true, true, true, true, true, true, true, true, true, true, true, true, true, true, true, true, true, true, true, true, false, false, false, false, false, false, false, false, false, false, false, false, false, false, false, false, false, false] rfl rfl (take_ofW HT_.out HW_.out (by kernel_rfl)) (fun _ _ _ h => h) (Or.inl ⟨by rfl, ?_⟩) hHeld ?_ ?_
                  rotate_left
                  · rintro w' ⟨s0, s1, s2, s3, s4, s5, s6, s7⟩
                    go_simp
                    with_reducible rfl
                  rotate_left
                  · simp only [Act.put, List.setIfInBounds_toArray, List.set_cons_zero, List.set_cons_succ, i64_w, i32_w]
                    rfl
                  refine one_ (i := 25) (N := some 34) #[true, true, true, true, true, true, true, true, true, true, true, true, true, true, true, true, true, true, true, true, true, true, true, true, true, true, false, false, false, false, false, false, false, false, false, false, false, false, false, false, false, false, false] rfl rfl (one_of HT_.out (by kernel_rfl)) (by decide) (fun K hK => ?_)
                  refine goes_ Tryd.func29 (by kernel_rfl) rfl #[.agg #[.int .i64 3, .string (⟨#[]⟩ : ByteArray), .string (⟨#[]⟩ : ByteArray), .slice (some ad121) y104.length co37]] (by rfl) rfl rfl (by (try simp only [List.map_toArray, List.map_cons, List.map_nil]); first | done | rfl | (simp only [List.length_drop, List.length_take]; rfl)) ?_
                  with_reducible refine (expr_Clone.calls k 3 (⟨#[]⟩ : ByteArray) (⟨#[]⟩ : ByteArray) _ _ y104 t113 t114 t115 t116 _ ?side1 ?side2 A25.out).mono ?_
                  (case side1 => repeat (first | exact (Kd.N_reads' HO106.out).2.2 | (with_reducible refine Kd.C_alloc ?_ _) | (with_reducible refine Kd.C_drewN ?_ _) | (with_reducible refine Kd.C_drew ?_)))
                  (case side2 => exact (Kd.N_reads' HO106.out).2.1)
                  rintro e w47 ⟨v117, rfl, ho0, hb⟩
                  have HS4_ := (hb.cell (World.block_lt_of_cell? _ _ (hHeld.2.2.2.2.1))).trans (hHeld.2.2.2.2.1)
                  have HS5_ := (hb.cell (World.block_lt_of_cell? _ _ (hHeld.2.2.2.2.2.1))).trans (hHeld.2.2.2.2.2.1)
                  have HS6_ := (hb.cell (World.block_lt_of_cell? _ _ (hHeld.2.2.2.2.2.2.1))).trans (hHeld.2.2.2.2.2.2.1)
                  have HS7_ := (hb.cell (World.block_lt_of_cell? _ _ (hHeld.2.2.2.2.2.2.2))).trans (hHeld.2.2.2.2.2.2.2)
                  refine ⟨_, rfl, ?_⟩
                  have n0_ := Aside0.mk (Kd.N_below (by (with_reducible repeat (first | apply Kd.N_alloc | apply Kd.N_drewN | apply Kd.N_drew)); exact HO106.out) hb)
                  have n1_ := Aside0.mk (Kd.V_lower (Kd.V_mono (ok' := fun k_ => some k_ ≠ (.slice (some ad121) y104.length co37 : Value).ownBlock ∧ k_ ≠ gb107) ho0 (fun k_ hk_ => ⟨(Kd.fresh' (Kd.N_lt (by (with_reducible repeat (first | apply Kd.N_alloc | apply Kd.N_drewN | apply Kd.N_drew)); exact HO106.out)) k_ hk_), (Kd.freshB (g := gb107) (o := .cells #[.int .i64 3, .string (⟨#[]⟩ : ByteArray), .string (⟨#[]⟩ : ByteArray), .slice (some ad121) y104.length co37] 24 (0, 0)) (by (with_reducible repeat (first | refine blk_drewN ?_ _ | refine blk_drew ?_ | refine blk_alloc ?_ _)); exact BK107.out) k_ hk_)⟩)) (below_size (by repeat (first | (with_reducible first | exact HB.out | apply below_alloc | apply pw_below_drewN | apply below_drew1 | refine below_set ?_ GE107.out) | exact HB.out))))
                  have n2_ := Aside0.mk (blk_below (g := gb107) (o := .cells #[.int .i64 3, .string (⟨#[]⟩ : ByteArray), .string (⟨#[]⟩ : ByteArray), .slice (some ad121) y104.length co37] 24 (0, 0)) (by (with_reducible repeat (first | refine blk_drewN ?_ _ | refine blk_drew ?_ | refine blk_alloc ?_ _)); exact BK107.out) hb)
                  have n3_ := Aside0.mk (below_step (by repeat (first | (with_reducible first | exact HB.out | apply below_alloc | apply pw_below_drewN | apply below_drew1 | refine below_set ?_ GE107.out) | exact HB.out)) hb)
                  clear HO106
                  clear BK107
                  clear HB
                  have HO106 := n0_
                  have HO118 := n1_
                  have BK107 := n2_
                  have HB := n3_
                  clear n0_ n1_ n2_ n3_
                  (try clear hb)
                  (try clear hb2)
                  (try clear hk)
                  (try clear hi)
                  (try clear ho0)
                  obtain ⟨Ao48, co48, eo48⟩ := Kd.V_slice HO118.out
                  (first | subst eo48 | (injection eo48 with f1_ f2_ f3_; have f4_ := f1_.symm; have f5_ := f3_.symm; clear f1_ f2_ f3_; subst f4_; subst f5_))
                  refine hK.out _ _ ⟨(blk_cell BK107.out 0).trans rfl, (blk_cell BK107.out 1).trans rfl, (blk_cell BK107.out 2).trans rfl, (blk_cell BK107.out 3).trans rfl, HS4_, HS5_, HS6_, HS7_⟩ (fun hHeld => ?_)
                  clear hK K
                  refine norm_ (a' := ?_) ?_ ?_
                  rotate_left
                  · show Act.put _ (some 34) _ = _
                    simp only [Act.put, List.setIfInBounds_toArray, List.set_cons_zero, List.set_cons_succ, i64_w, i32_w]
                    rfl
                  refine one_ (i := 26) (N := some 35) #[true, true, true, true, true, true, true, true, true, true, true, true, true, true, true, true, true, true, true, true, true, true, true, true, true, true, true, false, false, false, false, false, false, false, false, false, false, false, false, false, false, false, false] rfl rfl (one_of HT_.out (by kernel_rfl)) (by decide) (fun K hK => ?_)
                  refine goes_ Tryd.func23 (by kernel_rfl) rfl #[.agg #[.int .i64 3, .string (⟨#[]⟩ : ByteArray), .string (⟨#[]⟩ : ByteArray), .slice (some ad121) y104.length co37], .agg #[.int .i64 t113, .string t114, .string t115, .slice Ao48 t116.length co48]] (by rfl) rfl rfl (by (try simp only [List.map_toArray, List.map_cons, List.map_nil]); first | done | rfl | (simp only [List.length_drop, List.length_take]; rfl)) ?_
                  with_reducible refine (expr_Same.calls 3 (⟨#[]⟩ : ByteArray) (⟨#[]⟩ : ByteArray) _ _ y104 t113 t114 t115 _ _ t116 true _ ?side1 ?side2 ?side3 ?side4 A26.out).mono ?_
                  (case side1 => repeat (first | exact (Kd.N_reads' HO106.out).2.2 | (with_reducible refine Kd.C_alloc ?_ _) | (with_reducible refine Kd.C_drewN ?_ _) | (with_reducible refine Kd.C_drew ?_)))
                  (case side2 => exact (Kd.N_reads' HO106.out).2.1)
                  (case side3 => repeat (first | exact (Kd.V_reads' HO118.out).2.2 | (with_reducible refine Kd.C_alloc ?_ _) | (with_reducible refine Kd.C_drewN ?_ _) | (with_reducible refine Kd.C_drew ?_)))
                  (case side4 => exact (Kd.V_reads' HO118.out).2.1)
                  rintro e w49 ⟨rfl, hb⟩
                  have HS4_ := (hb.cell (World.block_lt_of_cell? _ _ (hHeld.2.2.2.2.1))).trans (hHeld.2.2.2.2.1)
                  have HS5_ := (hb.cell (World.block_lt_of_cell? _ _ (hHeld.2.2.2.2.2.1))).trans (hHeld.2.2.2.2.2.1)
                  have HS6_ := (hb.cell (World.block_lt_of_cell? _ _ (hHeld.2.2.2.2.2.2.1))).trans (hHeld.2.2.2.2.2.2.1)
                  have HS7_ := (hb.cell (World.block_lt_of_cell? _ _ (hHeld.2.2.2.2.2.2.2))).trans (hHeld.2.2.2.2.2.2.2)
                  refine ⟨_, rfl, ?_⟩
                  have n0_ := Aside0.mk (Kd.N_below (by (with_reducible repeat (first | apply Kd.N_alloc | apply Kd.N_drewN | apply Kd.N_drew)); exact HO106.out) hb)
                  have n1_ := Aside0.mk (Kd.V_below (by (with_reducible repeat (first | apply Kd.V_alloc | apply Kd.V_drewN | apply Kd.V_drew)); exact HO118.out) hb)
                  have n2_ := Aside0.mk (blk_below (g := gb107) (o := .cells #[.int .i64 3, .string (⟨#[]⟩ : ByteArray), .string (⟨#[]⟩ : ByteArray), .slice (some ad121) y104.length co37] 24 (0, 0)) (by (with_reducible repeat (first | refine blk_drewN ?_ _ | refine blk_drew ?_ | refine blk_alloc ?_ _)); exact BK107.out) hb)
                  have n3_ := Aside0.mk (below_step (by repeat (first | (with_reducible first | exact HB.out | apply below_alloc | apply pw_below_drewN | apply below_drew1 | refine below_set ?_ GE107.out) | exact HB.out)) hb)
                  clear HO106
                  clear HO118
                  clear BK107
                  clear HB
                  have HO106 := n0_
                  have HO118 := n1_
                  have BK107 := n2_
                  have HB := n3_
                  clear n0_ n1_ n2_ n3_
                  (try clear hb)
                  (try clear hb2)
                  (try clear hk)
                  (try clear hi)
                  refine hK.out _ _ ⟨(blk_cell BK107.out 0).trans rfl, (blk_cell BK107.out 1).trans rfl, (blk_cell BK107.out 2).trans rfl, (blk_cell BK107.out 3).trans rfl, HS4_, HS5_, HS6_, HS7_⟩ (fun hHeld => ?_)
                  clear hK K
                  refine norm_ (a' := ?_) ?_ ?_
                  rotate_left
                  · show Act.put _ (some 35) _ = _
                    simp only [Act.put, List.setIfInBounds_toArray, List.set_cons_zero, List.set_cons_succ, i64_w, i32_w]
                    rfl
                  refine pure_ (i := 27) (N := some 36) (v := ?_) (a' := ?_) #[true, true, true, true, true, true, true, true, true, true, true, true, true, true, true, true, true, true, true, true, true, true, true, true, true, true, true, true, false, false, false, false, false, false, false, false, false, false, false, false, false, false, false] rfl rfl (any_of HT_.out (by kernel_rfl)) (fun _ _ _ h => h) (Or.inl ⟨by rfl, ?_⟩) ?_ ?_
                  rotate_left
                  · intro w'
                    go_simp
                    with_reducible rfl
                  rotate_left
                  · simp only [Act.put, List.setIfInBounds_toArray, List.set_cons_zero, List.set_cons_succ, i64_w, i32_w]
                    rfl
                  refine pure_ (i := 28) (N := some 37) (v := ?_) (a' := ?_) #[true, true, true, true, true, true, true, true, true, true, true, true, true, true, true, true, true, true, true, true, true, true, true, true, true, true, true, true, true, false, false, false, false, false, false, false, false, false, false, false, false, false, false] rfl rfl (any_of HT_.out (by kernel_rfl)) (fun _ _ _ h => h) (Or.inl ⟨by rfl, ?_⟩) ?_ ?_
                  rotate_left
                  · intro w'
                    go_simp
                    with_reducible rfl
                  rotate_left
                  · simp only [Act.put, List.setIfInBounds_toArray, List.set_cons_zero, List.set_cons_succ, i64_w, i32_w]
                    rfl
                  refine take_ (i := 29) (N := some 38) (v := ?_) (a' := ?_) #[true, true, true, true, true, true, true, true, true, true, true, true, true, true, true, true, true, true, true, true, true, true, true, true, true, true, true, true, true, true, false, false, false, false, false, false, false, false, false, false, false, false, false] rfl rfl (take_ofW HT_.out HW_.out (by kernel_rfl)) (fun _ _ _ h => h) (Or.inl ⟨by rfl, ?_⟩) hHeld ?_ ?_
                  rotate_left
                  · rintro w' ⟨s0, s1, s2, s3, s4, s5, s6, s7⟩
                    go_simp
                    with_reducible rfl
                  rotate_left
                  · simp only [Act.put, List.setIfInBounds_toArray, List.set_cons_zero, List.set_cons_succ, i64_w, i32_w]
                    rfl
                  refine one_ (i := 30) (N := some 39) #[true, true, true, true, true, true, true, true, true, true, true, true, true, true, true, true, true, true, true, true, true, true, true, true, true, true, true, true, true, true, true, false, false, false, false, false, false, false, false, false, false, false, false] rfl rfl (one_of HT_.out (by kernel_rfl)) (by decide) (fun K hK => ?_)
                  refine goes_ Tryd.func25 (by kernel_rfl) rfl #[.agg #[.int .i64 3, .string (⟨#[]⟩ : ByteArray), .string (⟨#[]⟩ : ByteArray), .slice (some ad121) y104.length co37]] (by rfl) rfl rfl (by (try simp only [List.map_toArray, List.map_cons, List.map_nil]); first | done | rfl | (simp only [List.length_drop, List.length_take]; rfl)) ?_
                  with_reducible refine (expr_Leaves.calls 3 (⟨#[]⟩ : ByteArray) (⟨#[]⟩ : ByteArray) _ _ y104 true _ ?side1 ?side2 A28.out).mono ?_
                  (case side1 => repeat (first | exact (Kd.N_reads' HO106.out).2.2 | (with_reducible refine Kd.C_alloc ?_ _) | (with_reducible refine Kd.C_drewN ?_ _) | (with_reducible refine Kd.C_drew ?_)))
                  (case side2 => exact (Kd.N_reads' HO106.out).2.1)
                  rintro e w50 ⟨rfl, hb⟩
                  have HS4_ := (hb.cell (World.block_lt_of_cell? _ _ (hHeld.2.2.2.2.1))).trans (hHeld.2.2.2.2.1)
                  have HS5_ := (hb.cell (World.block_lt_of_cell? _ _ (hHeld.2.2.2.2.2.1))).trans (hHeld.2.2.2.2.2.1)
                  have HS6_ := (hb.cell (World.block_lt_of_cell? _ _ (hHeld.2.2.2.2.2.2.1))).trans (hHeld.2.2.2.2.2.2.1)
                  have HS7_ := (hb.cell (World.block_lt_of_cell? _ _ (hHeld.2.2.2.2.2.2.2))).trans (hHeld.2.2.2.2.2.2.2)
                  refine ⟨_, rfl, ?_⟩
                  have n0_ := Aside0.mk (Kd.N_below (by (with_reducible repeat (first | apply Kd.N_alloc | apply Kd.N_drewN | apply Kd.N_drew)); exact HO106.out) hb)
                  have n1_ := Aside0.mk (Kd.V_below (by (with_reducible repeat (first | apply Kd.V_alloc | apply Kd.V_drewN | apply Kd.V_drew)); exact HO118.out) hb)
                  have n2_ := Aside0.mk (blk_below (g := gb107) (o := .cells #[.int .i64 3, .string (⟨#[]⟩ : ByteArray), .string (⟨#[]⟩ : ByteArray), .slice (some ad121) y104.length co37] 24 (0, 0)) (by (with_reducible repeat (first | refine blk_drewN ?_ _ | refine blk_drew ?_ | refine blk_alloc ?_ _)); exact BK107.out) hb)
                  have n3_ := Aside0.mk (below_step (by repeat (first | (with_reducible first | exact HB.out | apply below_alloc | apply pw_below_drewN | apply below_drew1 | refine below_set ?_ GE107.out) | exact HB.out)) hb)
                  clear HO106
                  clear HO118
                  clear BK107
                  clear HB
                  have HO106 := n0_
                  have HO118 := n1_
                  have BK107 := n2_
                  have HB := n3_
                  clear n0_ n1_ n2_ n3_
                  (try clear hb)
                  (try clear hb2)
                  (try clear hk)
                  (try clear hi)
                  refine hK.out _ _ ⟨(blk_cell BK107.out 0).trans rfl, (blk_cell BK107.out 1).trans rfl, (blk_cell BK107.out 2).trans rfl, (blk_cell BK107.out 3).trans rfl, HS4_, HS5_, HS6_, HS7_⟩ (fun hHeld => ?_)
                  clear hK K
                  refine norm_ (a' := ?_) ?_ ?_
                  rotate_left
                  · show Act.put _ (some 39) _ = _
                    simp only [Act.put, List.setIfInBounds_toArray, List.set_cons_zero, List.set_cons_succ, i64_w, i32_w]
                    rfl
                  refine pure_ (i := 31) (N := some 40) (v := ?_) (a' := ?_) #[true, true, true, true, true, true, true, true, true, true, true, true, true, true, true, true, true, true, true, true, true, true, true, true, true, true, true, true, true, true, true, true, false, false, false, false, false, false, false, false, false, false, false] rfl rfl (any_of HT_.out (by kernel_rfl)) (fun _ _ _ h => h) (Or.inl ⟨by rfl, ?_⟩) ?_ ?_
                  rotate_left
                  · intro w'
                    go_simp
                    with_reducible rfl
                  rotate_left
                  · simp only [Act.put, List.setIfInBounds_toArray, List.set_cons_zero, List.set_cons_succ, i64_w, i32_w]
                    rfl
                  refine pure_ (i := 32) (N := some 41) (v := ?_) (a' := ?_) #[true, true, true, true, true, true, true, true, true, true, true, true, true, true, true, true, true, true, true, true, true, true, true, true, true, true, true, true, true, true, true, true, true, false, false, false, false, false, false, false, false, false, false] rfl rfl (any_of HT_.out (by kernel_rfl)) (fun _ _ _ h => h) (Or.inl ⟨by rfl, ?_⟩) ?_ ?_
                  rotate_left
                  · intro w'
                    go_simp
                    with_reducible rfl
                  rotate_left
                  · simp only [Act.put, List.setIfInBounds_toArray, List.set_cons_zero, List.set_cons_succ, i64_w, i32_w]
                    rfl
                  refine pure_ (i := 33) (N := some 42) (v := ?_) (a' := ?_) #[true, true, true, true, true, true, true, true, true, true, true, true, true, true, true, true, true, true, true, true, true, true, true, true, true, true, true, true, true, true, true, true, true, true, false, false, false, false, false, false, false, false, false] rfl rfl (any_of HT_.out (by kernel_rfl)) (fun _ _ _ h => h) (Or.inl ⟨by rfl, ?_⟩) ?_ ?_
                  rotate_left
                  · intro w'
                    go_simp
                    with_reducible rfl
                  rotate_left
                  · simp only [Act.put, List.setIfInBounds_toArray, List.set_cons_zero, List.set_cons_succ, i64_w, i32_w]
                    rfl
                  refine pure_ (i := 35) (N := some 44) (v := ?_) (a' := ?_) #[true, true, true, true, true, true, true, true, true, true, true, true, true, true, true, true, true, true, true, true, true, true, true, true, true, true, true, true, true, true, true, true, true, true, false, true, false, false, false, false, false, false, false] rfl rfl (any_of HT_.out (by kernel_rfl)) (fun _ _ _ h => h) (Or.inl ⟨by rfl, ?_⟩) ?_ ?_
                  rotate_left
                  · intro w'
                    go_simp
                    with_reducible rfl
                  rotate_left
                  · simp only [Act.put, List.setIfInBounds_toArray, List.set_cons_zero, List.set_cons_succ, i64_w, i32_w]
                    rfl
                  refine take_ (i := 34) (N := some 43) (v := ?_) (a' := ?_) #[true, true, true, true, true, true, true, true, true, true, true, true, true, true, true, true, true, true, true, true, true, true, true, true, true, true, true, true, true, true, true, true, true, true, true, true, false, false, false, false, false, false, false] rfl rfl (take_ofW HT_.out HW_.out (by kernel_rfl)) (fun _ _ _ h => h) (Or.inl ⟨by rfl, ?_⟩) hHeld ?_ ?_
                  rotate_left
                  · rintro w' ⟨s0, s1, s2, s3, s4, s5, s6, s7⟩
                    go_simp
                    with_reducible rfl
                  rotate_left
                  · simp only [Act.put, List.setIfInBounds_toArray, List.set_cons_zero, List.set_cons_succ, i64_w, i32_w]
                    rfl
                  refine take_ (i := 36) (N := some 45) (v := ?_) (a' := ?_) #[true, true, true, true, true, true, true, true, true, true, true, true, true, true, true, true, true, true, true, true, true, true, true, true, true, true, true, true, true, true, true, true, true, true, true, true, true, false, false, false, false, false, false] rfl rfl (take_ofW HT_.out HW_.out (by kernel_rfl)) (fun _ _ _ h => h) (Or.inl ⟨by rfl, ?_⟩) hHeld ?_ ?_
                  rotate_left
                  · rintro w' ⟨s0, s1, s2, s3, s4, s5, s6, s7⟩
                    go_simp
                    with_reducible rfl
                  rotate_left
                  · simp only [Act.put, List.setIfInBounds_toArray, List.set_cons_zero, List.set_cons_succ, i64_w, i32_w]
                    rfl
                  refine pure_ (i := 37) (N := some 46) (v := ?_) (a' := ?_) #[true, true, true, true, true, true, true, true, true, true, true, true, true, true, true, true, true, true, true, true, true, true, true, true, true, true, true, true, true, true, true, true, true, true, true, true, true, true, false, false, false, false, false] rfl rfl (any_of HT_.out (by kernel_rfl)) (fun _ _ _ h => h) (Or.inl ⟨by rfl, ?_⟩) ?_ ?_
                  rotate_left
                  · intro w'
                    go_simp
                    with_reducible rfl
                  rotate_left
                  · simp only [Act.put, List.setIfInBounds_toArray, List.set_cons_zero, List.set_cons_succ, i64_w, i32_w]
                    rfl
                  refine take_ (i := 38) (N := some 47) (v := ?_) (a' := ?_) #[true, true, true, true, true, true, true, true, true, true, true, true, true, true, true, true, true, true, true, true, true, true, true, true, true, true, true, true, true, true, true, true, true, true, true, true, true, true, true, false, false, false, false] rfl rfl (take_ofW HT_.out HW_.out (by kernel_rfl)) (fun _ _ _ h => h) (Or.inl ⟨by rfl, ?_⟩) hHeld ?_ ?_
                  rotate_left
                  · rintro w' ⟨s0, s1, s2, s3, s4, s5, s6, s7⟩
                    go_simp
                    with_reducible rfl
                  rotate_left
                  · simp only [Act.put, List.setIfInBounds_toArray, List.set_cons_zero, List.set_cons_succ, i64_w, i32_w]
                    rfl
                  refine one_ (i := 39) (N := some 48) #[true, true, true, true, true, true, true, true, true, true, true, true, true, true, true, true, true, true, true, true, true, true, true, true, true, true, true, true, true, true, true, true, true, true, true, true, true, true, true, true, false, false, false] rfl rfl (one_of HT_.out (by kernel_rfl)) (by decide) (fun K hK => ?_)
                  refine goes_ Tryd.func21 (by kernel_rfl) rfl #[.agg #[.int .i64 3, .string (⟨#[]⟩ : ByteArray), .string (⟨#[]⟩ : ByteArray), .slice (some ad121) y104.length co37], .agg #[.int .i64 ((rd_T24 y104 0).f0), .string ((rd_T24 y104 0).f1), .string ((rd_T24 y104 0).f2), .slice A121_3 ((rd_T24 y104 0).f3).length c121_3]] (by rfl) rfl rfl (by (try simp only [List.map_toArray, List.map_cons, List.map_nil]); first | done | rfl | (simp only [List.length_drop, List.length_take]; rfl)) ?_
                  with_reducible refine (expr_Compare.calls 3 (⟨#[]⟩ : ByteArray) (⟨#[]⟩ : ByteArray) _ _ y104 ((rd_T24 y104 0).f0) ((rd_T24 y104 0).f1) ((rd_T24 y104 0).f2) _ _ ((rd_T24 y104 0).f3) t122 _ ?side1 ?side2 ?side3 ?side4 A31.out).mono ?_
                  (case side1 => repeat (first | exact (Kd.N_reads' HO106.out).2.2 | (with_reducible refine Kd.C_alloc ?_ _) | (with_reducible refine Kd.C_drewN ?_ _) | (with_reducible refine Kd.C_drew ?_)))
                  (case side2 => exact (Kd.N_reads' HO106.out).2.1)
                  (case side3 => exact at_again (Kd.N_reads' HO106.out).2.2 (of_eq_true q121) hHeld.2.2.2.2.2.2.2)
                  (case side4 => exact HC121_3.out)
                  rintro e w51 ⟨rfl, hb⟩
                  have HS4_ := (hb.cell (World.block_lt_of_cell? _ _ (hHeld.2.2.2.2.1))).trans (hHeld.2.2.2.2.1)
                  have HS5_ := (hb.cell (World.block_lt_of_cell? _ _ (hHeld.2.2.2.2.2.1))).trans (hHeld.2.2.2.2.2.1)
                  have HS6_ := (hb.cell (World.block_lt_of_cell? _ _ (hHeld.2.2.2.2.2.2.1))).trans (hHeld.2.2.2.2.2.2.1)
                  have HS7_ := (hb.cell (World.block_lt_of_cell? _ _ (hHeld.2.2.2.2.2.2.2))).trans (hHeld.2.2.2.2.2.2.2)
                  refine ⟨_, rfl, ?_⟩
                  have n0_ := Aside0.mk (Kd.N_below (by (with_reducible repeat (first | apply Kd.N_alloc | apply Kd.N_drewN | apply Kd.N_drew)); exact HO106.out) hb)
                  have n1_ := Aside0.mk (Kd.V_below (by (with_reducible repeat (first | apply Kd.V_alloc | apply Kd.V_drewN | apply Kd.V_drew)); exact HO118.out) hb)
                  have n3_ := Aside0.mk (blk_below (g := gb107) (o := .cells #[.int .i64 3, .string (⟨#[]⟩ : ByteArray), .string (⟨#[]⟩ : ByteArray), .slice (some ad121) y104.length co37] 24 (0, 0)) (by (with_reducible repeat (first | refine blk_drewN ?_ _ | refine blk_drew ?_ | refine blk_alloc ?_ _)); exact BK107.out) hb)
                  have n5_ := Aside0.mk (below_step (by repeat (first | (with_reducible first | exact HB.out | apply below_alloc | apply pw_below_drewN | apply below_drew1 | refine below_set ?_ GE107.out) | exact HB.out)) hb)
                  clear HO106
                  clear HO118
                  clear HL121_3
                  clear BK107
                  clear HR121_3
                  clear HB
                  have HO106 := n0_
                  have HO118 := n1_
                  have BK107 := n3_
                  have HB := n5_
                  clear n0_ n1_ n3_ n5_
                  (try clear hb)
                  (try clear hb2)
                  (try clear hk)
                  (try clear hi)
                  refine hK.out _ _ ⟨(blk_cell BK107.out 0).trans rfl, (blk_cell BK107.out 1).trans rfl, (blk_cell BK107.out 2).trans rfl, (blk_cell BK107.out 3).trans rfl, HS4_, HS5_, HS6_, HS7_⟩ (fun hHeld => ?_)
                  clear hK K
                  refine norm_ (a' := ?_) ?_ ?_
                  rotate_left
                  · show Act.put _ (some 48) _ = _
                    simp only [Act.put, List.setIfInBounds_toArray, List.set_cons_zero, List.set_cons_succ, i64_w, i32_w]
                    rfl
                  refine pure_ (i := 40) (N := some 49) (v := ?_) (a' := ?_) #[true, true, true, true, true, true, true, true, true, true, true, true, true, true, true, true, true, true, true, true, true, true, true, true, true, true, true, true, true, true, true, true, true, true, true, true, true, true, true, true, true, false, false] rfl rfl (any_of HT_.out (by kernel_rfl)) (fun _ _ _ h => h) (Or.inl ⟨by rfl, ?_⟩) ?_ ?_
                  rotate_left
                  · intro w'
                    go_simp
                    with_reducible rfl
                  rotate_left
                  · simp only [Act.put, List.setIfInBounds_toArray, List.set_cons_zero, List.set_cons_succ, i64_w, i32_w]
                    rfl
                  refine pure_ (i := 41) (N := some 50) (v := ?_) (a' := ?_) #[true, true, true, true, true, true, true, true, true, true, true, true, true, true, true, true, true, true, true, true, true, true, true, true, true, true, true, true, true, true, true, true, true, true, true, true, true, true, true, true, true, true, false] rfl rfl (any_of HT_.out (by kernel_rfl)) (fun _ _ _ h => h) (Or.inl ⟨by rfl, ?_⟩) ?_ ?_
                  rotate_left
                  · intro w'
                    go_simp
                    with_reducible rfl
                  rotate_left
                  · simp only [Act.put, List.setIfInBounds_toArray, List.set_cons_zero, List.set_cons_succ, i64_w, i32_w]
                    rfl
                  refine pure_ (i := 42) (N := some 0) (v := ?_) (a' := ?_) #[true, true, true, true, true, true, true, true, true, true, true, true, true, true, true, true, true, true, true, true, true, true, true, true, true, true, true, true, true, true, true, true, true, true, true, true, true, true, true, true, true, true, true] rfl rfl (any_of HT_.out (by kernel_rfl)) (fun _ _ _ h => h) (Or.inl ⟨by rfl, ?_⟩) ?_ ?_
                  rotate_left
                  · intro w'
                    go_simp
                    with_reducible rfl
                  rotate_left
                  · simp only [Act.put, List.setIfInBounds_toArray, List.set_cons_zero, List.set_cons_succ, i64_w, i32_w]
                    rfl
                  refine done_ (done_of HT_.out (by kernel_rfl)) ?_
                  try go_wp2
                  go_ret
                  exact ⟨by first | rfl | (simp [errW_none, errW_some] <;> rfl) | (simp [*, errW_none, errW_some] <;> rfl), by repeat (first | (with_reducible first | exact HB.out | apply below_alloc | apply pw_below_drewN | apply below_drew1 | refine below_set ?_ GE107.out) | exact HB.out)⟩
                · exact absurd (awk_len Ny104.out) c30
              · exact absurd (awk_leaves A28.out) c29
            · exact absurd (awk_same Ny104.out Ny101.out A25.out A26.out) c27
          · exact absurd (awk_text0 A23.out) c24
      · exact absurd (awk_depth Ny104.out Ny101.out A5.out) c6
    · exact absurd (awk_right Ny104.out Ny101.out A3.out) c4
  · exact absurd (awk_text Ny104.out Ny101.out A1.out) c2
end Go.Proofs.YtigghbfcflnoeaaDoor.Y
end
section
namespace Go.Proofs.YtigghbfcflnoeaaDoor.Y
open Go.RowKit Go.Proofs.YtigghbfcflnoeaaDoorW.PrintWords Go.Proofs.YtigghbfcflnoeaaDoorW.PrintLast Go.Proofs.YtigghbfcflnoeaaDoorW.PrintMore
attribute [local go_sem] max2_int min2_int max_two min_two max_three min_three max_four min_four
set_option linter.unusedVariables false
set_option linter.unusedSimpArgs false
theorem Ev.yes {α : Type} {c : Prop} [Decidable c] {f g : Nat → Option α} {r : α} (h : c) (hf : Ev f r) : Ev (fun n => if c then f n else g n) r := by
  simp only [if_pos h]
  exact hf
theorem Ev.no {α : Type} {c : Prop} [Decidable c] {f g : Nat → Option α} {r : α} (h : ¬ c) (hf : Ev g r) : Ev (fun n => if c then f n else g n) r := by
  simp only [if_neg h]
  exact hf
theorem Ev.val {α : Type} {o : Option α} {r : α} (h : o = some r) : Ev (fun _ => o) r := by
  rw [h]
  exact Ev.now _
theorem awake_ev : Ev (fun k => vestrylaw10_awake.f k) true := by
  unfold vestrylaw10_awake.f
  simp only [Option.bind_some]
  have e0 := exprText_ev awE awE_wgt
  rw [if_pos awE_right] at e0
  refine Ev.bind e0 ?_
  have t0 : (⟨(txt awE).toArray⟩ : ByteArray).toList = [97, 32, 43, 32, 40, 98, 32, 45, 32, 99, 45, 62, 100, 41] := by rw [Lib.toList_data]; simpa using awE_txt
  refine Ev.yes (t0) ?_
  have e1 := exprRight_ev awE awE_wgt
  rw [awE_right] at e1
  refine Ev.bind e1 ?_
  refine Ev.yes (rfl) ?_
  have e2 := exprDepth_ev awE (by have := awE_wgt; omega)
  rw [awE_depth] at e2
  refine Ev.bind e2 ?_
  refine Ev.yes ((show (((3 : Nat) : Int) = 3) from rfl)) ?_
  have e3 := exprRight_ev awZ awZ_wgt
  rw [awZ_right] at e3
  refine Ev.bind e3 ?_
  refine Ev.no ((show ¬ (false = true) by simp)) ?_
  have e4 := exprText_ev awZ awZ_wgt
  rw [if_neg (by rw [awZ_right]; simp)] at e4
  refine Ev.bind e4 ?_
  refine Ev.yes ((show (⟨#[]⟩ : ByteArray).toList = [] by rw [Lib.toList_data])) ?_
  refine Ev.bind (Clone_ev awE awE_wgt) ?_
  have e5 : expr_Same.f 3 bE bE awE.f3 3 bE bE awE.f3 = some true := by
    have : expr_Same.f 3 bE bE awE.f3 3 bE bE awE.f3 = some (cmpE awE awE == 0) := rfl
    rw [this, cmpE_refl]
    rfl
  refine Ev.bind (Ev.val e5) ?_
  refine Ev.yes (rfl) ?_
  refine Ev.bind (Ev.val (show expr_Leaves.f 3 bE bE awE.f3 = some true from rfl)) ?_
  refine Ev.yes (rfl) ?_
  refine Ev.yes (by simp) ?_
  have e6 : cmpE awE ⟨1, bE, ⟨#[97]⟩, []⟩ = 1 := by rw [cmpE_eq]; simp [cmpI]
  refine Ev.bind (Ev.val (show expr_Compare.f 3 bE bE awE.f3 1 bE ⟨#[97]⟩ [] = some (cmpE awE ⟨1, bE, ⟨#[97]⟩, []⟩) from rfl)) ?_
  rw [e6]
  exact Ev.now _
end Go.Proofs.YtigghbfcflnoeaaDoor.Y
end
