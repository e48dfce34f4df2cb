/- A part of the proof of the claim's statement: plain laws and walks (some printed by a program over the kit's printer). It has no conditions of its own. -/
import Derived.Test.YtigghbfcflnoeaaDoorVe9
import Derived.Test.YtigghbfcflnoeaaDoorVe16
import Derived.Test.YtigghbfcflnoeaaDoorVe13
import Derived.Test.YtigghbfcflnoeaaDoorVe5
import Derived.Test.YtigghbfcflnoeaaDoorVe11
section
namespace Go.Proofs.YtigghbfcflnoeaaDoor.Y
open Go.RowKit Go.Proofs.YtigghbfcflnoeaaDoorW.PrintWords Go.Proofs.YtigghbfcflnoeaaDoorW.PrintLast Go.Proofs.YtigghbfcflnoeaaDoorW.PrintMore
attribute [local go_sem] max2_int min2_int max_two min_two max_three min_three max_four min_four
set_option linter.unusedVariables false
set_option linter.unusedSimpArgs false
theorem u8_eq (c d : UInt8) : c = d ↔ c.toNat = d.toNat := ⟨fun h => by rw [h], fun h => UInt8.toNat_inj.1 h⟩
theorem small_iff (c : UInt8) : smallS.data.toList.contains c = decide (97 ≤ c.toNat ∧ c.toNat ≤ 122) := by
  rw [Bool.eq_iff_iff]
  simp only [smallS, List.contains_iff_mem, List.mem_cons, List.not_mem_nil, or_false, decide_eq_true_eq, u8_eq]
  simp only [show (97 : UInt8).toNat = 97 from rfl, show (98 : UInt8).toNat = 98 from rfl, show (99 : UInt8).toNat = 99 from rfl, show (100 : UInt8).toNat = 100 from rfl, show (101 : UInt8).toNat = 101 from rfl, show (102 : UInt8).toNat = 102 from rfl, show (103 : UInt8).toNat = 103 from rfl, show (104 : UInt8).toNat = 104 from rfl, show (105 : UInt8).toNat = 105 from rfl, show (106 : UInt8).toNat = 106 from rfl, show (107 : UInt8).toNat = 107 from rfl, show (108 : UInt8).toNat = 108 from rfl, show (109 : UInt8).toNat = 109 from rfl, show (110 : UInt8).toNat = 110 from rfl, show (111 : UInt8).toNat = 111 from rfl, show (112 : UInt8).toNat = 112 from rfl, show (113 : UInt8).toNat = 113 from rfl, show (114 : UInt8).toNat = 114 from rfl, show (115 : UInt8).toNat = 115 from rfl, show (116 : UInt8).toNat = 116 from rfl, show (117 : UInt8).toNat = 117 from rfl, show (118 : UInt8).toNat = 118 from rfl, show (119 : UInt8).toNat = 119 from rfl, show (120 : UInt8).toNat = 120 from rfl, show (121 : UInt8).toNat = 121 from rfl, show (122 : UInt8).toNat = 122 from rfl]
  omega
theorem inName_split : inNameS.data.toList = smallS.data.toList ++ [48, 49, 50, 51, 52, 53, 54, 55, 56, 57, 95] := rfl
theorem inName_iff (c : UInt8) : inNameS.data.toList.contains c = decide ((97 ≤ c.toNat ∧ c.toNat ≤ 122) ∨ (48 ≤ c.toNat ∧ c.toNat ≤ 57) ∨ c.toNat = 95) := by
  have h := small_iff c
  rw [Bool.eq_iff_iff, decide_eq_true_eq] at h ⊢
  rw [inName_split, List.contains_iff_mem, List.mem_append, ← List.contains_iff_mem, h]
  simp only [List.mem_cons, List.not_mem_nil, or_false, u8_eq]
  simp only [show (48 : UInt8).toNat = 48 from rfl, show (49 : UInt8).toNat = 49 from rfl, show (50 : UInt8).toNat = 50 from rfl, show (51 : UInt8).toNat = 51 from rfl, show (52 : UInt8).toNat = 52 from rfl, show (53 : UInt8).toNat = 53 from rfl, show (54 : UInt8).toNat = 54 from rfl, show (55 : UInt8).toNat = 55 from rfl, show (56 : UInt8).toNat = 56 from rfl, show (57 : UInt8).toNat = 57 from rfl, show (95 : UInt8).toNat = 95 from rfl]
  omega
theorem bt_list {s : ByteArray} {i : Nat} (h : i < s.data.toList.length) : bt s (i : Int) = (s.data.toList[i].toNat : Int) := by
  have h' : i < s.size := by simpa [data_length] using h
  simp only [bt, Int.toNat_natCast]
  rw [dif_pos h']
  rw [Array.getElem_toList]
  rfl
theorem resv_f (s : ByteArray) : vestryref08_Reserved.f s = some (resv s) := by
  have hd : resD.toList = [100, 101, 102, 105, 110, 105, 116, 105, 111, 110] := by rw [Lib.toList_data]; rfl
  have hr : resR.toList = [114, 101, 108, 97, 116, 105, 111, 110] := by rw [Lib.toList_data]; rfl
  have hp : resP.toList = [112, 101, 114, 109, 105, 115, 115, 105, 111, 110] := by rw [Lib.toList_data]; rfl
  simp only [vestryref08_Reserved.f, resv, hd, hr, hp]
  generalize s.toList = x
  generalize ([100, 101, 102, 105, 110, 105, 116, 105, 111, 110] : List UInt8) = d
  generalize ([114, 101, 108, 97, 116, 105, 111, 110] : List UInt8) = r
  generalize ([112, 101, 114, 109, 105, 115, 115, 105, 111, 110] : List UInt8) = p
  by_cases h1 : x = d
  · rw [if_pos h1]; simp [h1]
  · rw [if_neg h1, show (x == d) = false from by simpa using h1]
    by_cases h2 : x = r
    · rw [if_pos h2]; simp [h2]
    · rw [if_neg h2, show (x == r) = false from by simpa using h2]; simp
theorem small_f (c : UInt8) : vestryref08_small.f (c.toNat : Int) = some (smallS.data.toList.contains c) := by
  rw [small_iff]
  unfold vestryref08_small.f
  split
  · congr 1; rw [Bool.eq_iff_iff]; simp; omega
  · congr 1; symm; rw [decide_eq_false_iff_not]; omega
theorem digit_f (c : UInt8) : vestryref08_digit.f (c.toNat : Int) = some (decide (48 ≤ c.toNat ∧ c.toNat ≤ 57)) := by
  unfold vestryref08_digit.f
  split
  · congr 1; rw [Bool.eq_iff_iff]; simp; omega
  · congr 1; symm; rw [decide_eq_false_iff_not]; omega
theorem isl_ev (s : ByteArray) (hs : s.size ≤ 9223372036854775806) : ∀ (r i : Nat), s.data.toList.length - i = r → i ≤ s.data.toList.length → Ev (fun k => vestryref08_Is.l0 k s (i : Int)) (hasL inNameS.data.toList (s.data.toList.drop i)) := by
  have hsz : s.size = s.data.toList.length := (data_length s).symm
  intro r
  induction r with
  | zero =>
    intro i hr hi
    rw [List.drop_eq_nil_of_le (by omega)]
    refine Ev.step (f := fun _ => some true) (fun k => ?_) (Ev.now _)
    rw [vestryref08_Is.l0, if_neg (by omega)]
  | succ r ih =>
    intro i hr hi
    have hlt : i < s.data.toList.length := by omega
    have hnext := ih (i + 1) (by omega) (by omega)
    rw [List.drop_eq_getElem_cons hlt]
    have hc := inName_iff s.data.toList[i]
    have hsm := small_iff s.data.toList[i]
    generalize hce : s.data.toList[i] = c at hc hsm
    have hstep : ∀ k, vestryref08_Is.l0 (k + 1) s (i : Int) = if (smallS.data.toList.contains c) = true then vestryref08_Is.l0 k s ((i + 1 : Nat) : Int) else if decide (48 ≤ c.toNat ∧ c.toNat ≤ 57) = true then vestryref08_Is.l0 k s ((i + 1 : Nat) : Int) else if (c.toNat : Int) = 95 then vestryref08_Is.l0 k s ((i + 1 : Nat) : Int) else some false := by
      intro k
      rw [vestryref08_Is.l0, if_pos (by omega), if_pos (by omega), bt_list hlt, hce, small_f, wrap_ok (x := (i : Int) + 1) (by omega) (by omega)]
      simp only [Option.bind_some, digit_f]
      rfl
    have hall : hasL inNameS.data.toList (c :: s.data.toList.drop (i + 1)) = (inNameS.data.toList.contains c && hasL inNameS.data.toList (s.data.toList.drop (i + 1))) := rfl
    rw [hall]
    by_cases h1 : smallS.data.toList.contains c = true
    · have h2 : inNameS.data.toList.contains c = true := by rw [hc, decide_eq_true_eq]; rw [hsm, decide_eq_true_eq] at h1; exact .inl h1
      rw [h2, Bool.true_and]
      exact Ev.step (fun k => by rw [hstep, if_pos h1]) hnext
    · have h1' : ¬ (97 ≤ c.toNat ∧ c.toNat ≤ 122) := by rw [hsm, decide_eq_true_eq] at h1; exact h1
      by_cases h2 : 48 ≤ c.toNat ∧ c.toNat ≤ 57
      · have h3 : inNameS.data.toList.contains c = true := by rw [hc, decide_eq_true_eq]; exact .inr (.inl h2)
        rw [h3, Bool.true_and]
        exact Ev.step (fun k => by rw [hstep, if_neg h1, if_pos (by simpa using h2)]) hnext
      · by_cases h4 : c.toNat = 95
        · have h3 : inNameS.data.toList.contains c = true := by rw [hc, decide_eq_true_eq]; exact .inr (.inr h4)
          rw [h3, Bool.true_and]
          exact Ev.step (fun k => by rw [hstep, if_neg h1, if_neg (by simpa using h2), if_pos (by omega)]) hnext
        · have h3 : inNameS.data.toList.contains c = false := by rw [hc, decide_eq_false_iff_not]; omega
          rw [h3, Bool.false_and]
          exact Ev.step (f := fun _ => some false) (fun k => by rw [hstep, if_neg h1, if_neg (by simpa using h2), if_neg (by omega)]) (Ev.now _)
theorem is_ev (s : ByteArray) : Ev (fun k => vestryref08_Is.f k s) (nameIs s) := by
  have hsz : s.size = s.data.toList.length := (data_length s).symm
  have jt : Ev (fun k => vestryref08_Is.j0 k s true) false := Ev.step (f := fun _ => some false) (fun k => by rw [vestryref08_Is.j0, if_pos rfl]) (Ev.now _)
  by_cases h1 : s.size = 0
  · have e : nameIs s = false := by
      have : s.toList = [] := by rw [Lib.toList_data]; exact List.eq_nil_of_length_eq_zero (by omega)
      simp [nameIs, this]
    rw [e]
    exact Ev.congr (fun k => by rw [vestryref08_Is.f, if_pos (by omega)]) jt
  by_cases h2 : s.size > 64
  · have e : nameIs s = false := by
      have : decide (s.size ≤ 64) = false := by simp; omega
      simp [nameIs, this]
    rw [e]
    exact Ev.congr (fun k => by rw [vestryref08_Is.f, if_neg (by omega), if_pos (by omega)]) jt
  have hne : s.toList.isEmpty = false := by
    rw [Lib.toList_data]
    cases h : s.data.toList with
    | nil => rw [h, List.length_nil] at hsz; omega
    | cons _ _ => rfl
  have hle : decide (s.size ≤ 64) = true := by simp; omega
  have h0 : 0 < s.data.toList.length := by omega
  have hx : (s.extract 0 1).data.toList = [s.data.toList[0]] := by
    rw [Lib.extract_data]
    simp only [List.drop_zero, Nat.sub_zero]
    rw [List.take_one, List.head?_eq_getElem?, List.getElem?_eq_getElem h0]
    rfl
  have hE : nameIs s = (smallS.data.toList.contains s.data.toList[0] && (hasL inNameS.data.toList s.data.toList && !resv s)) := by
    simp only [nameIs, hne, hle, hx, hasL, List.all_cons, List.all_nil, Bool.and_true, Bool.not_false, Bool.true_and]
  rw [hE]
  have hf : ∀ k, vestryref08_Is.f k s = if smallS.data.toList.contains s.data.toList[0] = true then vestryref08_Is.j0 k s (resv s) else vestryref08_Is.j0 k s true := by
    intro k
    have := bt_list (s := s) (i := 0) h0
    rw [vestryref08_Is.f, if_neg (show ¬ (s.size : Int) < 1 by omega), if_neg (show ¬ (s.size : Int) > 64 by omega), if_pos (show (0 : Int) < (s.size : Int) by omega), show (0 : Int) = ((0 : Nat) : Int) from rfl, this, small_f]
    simp only [Option.bind_some, resv_f]
  cases hc : smallS.data.toList.contains s.data.toList[0] with
  | false =>
    rw [Bool.false_and]
    exact Ev.congr (fun k => by rw [hf, hc]; simp) jt
  | true =>
    rw [Bool.true_and]
    cases hr : resv s with
    | true =>
      rw [show (hasL inNameS.data.toList s.data.toList && !true) = false by simp]
      exact Ev.congr (fun k => by rw [hf, hc, hr]; simp) jt
    | false =>
      rw [show (hasL inNameS.data.toList s.data.toList && !false) = hasL inNameS.data.toList s.data.toList by simp]
      have := isl_ev s (by omega) s.data.toList.length 0 (by omega) (by omega)
      rw [List.drop_zero] at this
      refine Ev.congr (f := fun k => vestryref08_Is.j0 k s false) (fun k => by rw [hf, hc, hr]; simp) ?_
      exact Ev.step (f := fun k => vestryref08_Is.l0 k s ((0 : Nat) : Int)) (fun k => by rw [vestryref08_Is.j0, if_neg (by simp)]; rfl) this
theorem less_nil (l : List UInt8) : Op.bytesLess l [] = false := by cases l <;> rfl
theorem order_ev (a b : ByteArray) (ha : a.size ≤ 9223372036854775806 ∨ b.size ≤ 9223372036854775806) : ∀ (r i : Nat), a.data.toList.length - i = r → i ≤ a.data.toList.length → i ≤ b.data.toList.length → a.data.toList.take i = b.data.toList.take i →
    Ev (fun k => vestryref08_Order.l0 k a b (i : Int)) (if Op.bytesLess (a.data.toList.drop i) (b.data.toList.drop i) = true then -1 else if a.data.toList.drop i = b.data.toList.drop i then 0 else 1) := by
  have hsa : a.size = a.data.toList.length := (data_length a).symm
  have hsb : b.size = b.data.toList.length := (data_length b).symm
  intro r
  induction r with
  | zero =>
    intro i hr hi hib _
    rw [(List.drop_eq_nil_of_le (by omega) : a.data.toList.drop i = [])]
    have hstep : ∀ k, vestryref08_Order.l0 (k + 2) a b (i : Int) = if (a.size : Int) < (b.size : Int) then some (-1) else if (a.size : Int) > (b.size : Int) then some 1 else some 0 := by
      intro k
      rw [vestryref08_Order.l0, if_neg (by omega), vestryref08_Order.j1, if_neg (by simp)]
    refine Ev.step (fun _ => rfl) (Ev.step (fun k => hstep k) ?_)
    by_cases h : i < b.data.toList.length
    · rw [List.drop_eq_getElem_cons h]
      rw [show Op.bytesLess ([] : List UInt8) (b.data.toList[i] :: b.data.toList.drop (i + 1)) = true from rfl, if_pos rfl]
      exact Ev.congr (fun _ => if_pos (by omega)) (Ev.now _)
    · rw [(List.drop_eq_nil_of_le (by omega) : b.data.toList.drop i = [])]
      rw [show Op.bytesLess ([] : List UInt8) [] = false from rfl]
      exact Ev.congr (fun _ => by rw [if_neg (by omega), if_neg (by omega)]; simp) (Ev.now _)
  | succ r ih =>
    intro i hr hi hib htk
    have hlt : i < a.data.toList.length := by omega
    rw [List.drop_eq_getElem_cons hlt]
    by_cases h : i < b.data.toList.length
    · rw [List.drop_eq_getElem_cons h]
      have hstep : ∀ k, vestryref08_Order.l0 (k + 2) a b (i : Int) = if ((a.data.toList[i]).toNat : Int) < ((b.data.toList[i]).toNat : Int) then some (-1) else if ((a.data.toList[i]).toNat : Int) > ((b.data.toList[i]).toNat : Int) then some 1 else vestryref08_Order.l0 k a b ((i + 1 : Nat) : Int) := by
        intro k
        rw [vestryref08_Order.l0, if_pos (by omega), vestryref08_Order.j1, if_pos (by simp; omega), if_pos (by omega), if_pos (by omega), if_pos (by omega), bt_list hlt, bt_list h, wrap_ok (x := (i : Int) + 1) (by omega) (by omega)]
        rfl
      refine Ev.step (fun _ => rfl) (Ev.step (fun k => hstep k) ?_)
      generalize hx : a.data.toList[i] = x at *
      generalize hy : b.data.toList[i] = y at *
      have hbl : ∀ u v, Op.bytesLess (x :: u) (y :: v) = (decide (x < y) || (x == y && Op.bytesLess u v)) := fun _ _ => rfl
      rw [hbl]
      by_cases h1 : x.toNat < y.toNat
      · have : decide (x < y) = true := by simpa [UInt8.lt_iff_toNat_lt] using h1
        rw [this, Bool.true_or, if_pos rfl]
        exact Ev.congr (fun _ => if_pos (by omega)) (Ev.now _)
      · have hn : decide (x < y) = false := by simpa [UInt8.lt_iff_toNat_lt] using h1
        rw [hn, Bool.false_or]
        by_cases h2 : x = y
        · subst h2
          rw [beq_self_eq_true, Bool.true_and]
          have hnext := ih (i + 1) (by omega) (by omega) (by omega) (by
            rw [List.take_succ_eq_append_getElem hlt, List.take_succ_eq_append_getElem h, htk, hx, hy])
          simp only [List.cons.injEq, true_and]
          exact Ev.congr (fun k => by rw [if_neg (by omega), if_neg (by omega)]) hnext
        · have : (x == y) = false := by simpa using h2
          have h3 : ¬ x.toNat = y.toNat := fun e => h2 (UInt8.toNat_inj.1 e)
          rw [this, Bool.false_and, if_neg (by simp), if_neg (by simp [h2])]
          exact Ev.congr (fun _ => by rw [if_neg (by omega), if_pos (by omega)]) (Ev.now _)
    · rw [(List.drop_eq_nil_of_le (by omega) : b.data.toList.drop i = [])]
      rw [less_nil, if_neg (by simp), if_neg (by simp)]
      have hstep : ∀ k, vestryref08_Order.l0 (k + 2) a b (i : Int) = if (a.size : Int) < (b.size : Int) then some (-1) else if (a.size : Int) > (b.size : Int) then some 1 else some 0 := by
        intro k
        rw [vestryref08_Order.l0, if_pos (by omega), vestryref08_Order.j1, if_neg (by simp; omega)]
      exact Ev.step (fun _ => rfl) (Ev.step (fun k => hstep k) (Ev.congr (fun _ => by rw [if_neg (by omega), if_pos (by omega)]) (Ev.now _)))
theorem Order_ev (a b : ByteArray) (ha : a.size ≤ 9223372036854775806 ∨ b.size ≤ 9223372036854775806) : Ev (fun k => vestryref08_Order.f k a b) (cmpS a b) := by
  have := order_ev a b ha a.data.toList.length 0 (by omega) (by omega) (by omega) (by simp)
  rw [List.drop_zero, List.drop_zero] at this
  unfold cmpS
  rw [Lib.toList_data, Lib.toList_data]
  exact Ev.congr (f := fun k => vestryref08_Order.l0 k a b ((0 : Nat) : Int)) (fun k => by rw [vestryref08_Order.f]; rfl) this
end Go.Proofs.YtigghbfcflnoeaaDoor.Y
end
section
namespace Go.Proofs.YtigghbfcflnoeaaDoor.Y
open Go.RowKit Go.Proofs.YtigghbfcflnoeaaDoorW.PrintWords Go.Proofs.YtigghbfcflnoeaaDoorW.PrintLast Go.Proofs.YtigghbfcflnoeaaDoorW.PrintMore
attribute [local go_sem] max2_int min2_int max_two min_two max_three min_three max_four min_four
set_option linter.unusedVariables false
set_option linter.unusedSimpArgs false
theorem depthL_le (l : List S24) (d : Nat) : depthE.depthL l ≤ d ↔ ∀ y ∈ l, depthE y ≤ d := by
  induction l with
  | nil => rw [depthE.depthL]; simp
  | cons y ys ih => rw [depthE.depthL]; simp only [List.mem_cons, forall_eq_or_imp, ← ih]; omega
theorem right_ev : ∀ x : S24, wgt x ≤ 4611686018427387904 → ∀ d : Nat, d ≤ 16 → Ev (fun k => vestryref10_right.f k x.f0 x.f1 x.f2 x.f3 (d : Int)) (decide (depthE x ≤ d) && formB x) := by
  intro x
  induction x using S24.ind with
  | h x ih =>
    intro hw d hd
    have hlen := wgtL_len x.f3
    have hwe := wgt_eq x
    rcases Nat.eq_zero_or_pos d with h0 | h0
    · subst h0
      have : decide (depthE x ≤ 0) = false := by rw [depthE_eq]; simp
      rw [this, Bool.false_and]
      exact Ev.step (f := fun _ => some false) (fun k => by rw [vestryref10_right.f, if_pos (by omega)]) (Ev.now _)
    · obtain ⟨d, rfl⟩ : ∃ e, d = e + 1 := ⟨d - 1, by omega⟩
      have htail : Ev (fun k => (if x.f0 = 1 then (if (x.f3.length : Int) = 0 then (if x.f1.toList = ([] : List UInt8) then ((vestryref08_Is.f k x.f2).bind fun t104 => (some t104)) else (some false)) else (some false)) else (if x.f0 = 2 then (if (x.f3.length : Int) = 0 then ((vestryref08_Is.f k x.f1).bind fun t105 => (if t105 = true then ((vestryref08_Is.f k x.f2).bind fun t106 => (some t106)) else (some false))) else (some false)) else (if x.f0 = 3 then (vestryref10_right.j1 k (x.f3.length : Int) x.f0 (x.f0 == 3) x.f0 x.f1 x.f2 x.f3) else (vestryref10_right.j1 k (x.f3.length : Int) x.f0 (x.f0 == 4) x.f0 x.f1 x.f2 x.f3))))) (namesB x && kidsB x) := by
        unfold namesB kidsB
        by_cases h1 : x.f0 = 1
        · simp only [h1, if_true, true_or]
          by_cases h2 : x.f3.length = 0
          · simp only [show ((x.f3.length : Int) = 0) = True from eq_true (by omega), h2, if_true, beq_self_eq_true, Bool.and_true]
            by_cases h3 : x.f1.toList = []
            · simp only [h3, if_true]
              exact Ev.bind (is_ev x.f2) (Ev.now _)
            · simp only [h3, if_false]
              exact Ev.now _
          · simp only [show ((x.f3.length : Int) = 0) = False from eq_false (by omega), if_false, show (x.f3.length == 0) = false by simpa using h2, Bool.and_false]
            exact Ev.now _
        · by_cases h2 : x.f0 = 2
          · simp only [h1, h2, if_true, if_false, or_true]
            by_cases h3 : x.f3.length = 0
            · simp only [show ((x.f3.length : Int) = 0) = True from eq_true (by omega), h3, if_true, beq_self_eq_true, Bool.and_true, show ¬ (2 : Int) = 1 by decide, if_false]
              refine Ev.bind (is_ev x.f1) ?_
              cases nameIs x.f1 with
              | true => simp only [if_true]; exact Ev.bind (is_ev x.f2) (Ev.now _)
              | false => simp only [Bool.false_eq_true, if_false]; exact Ev.now _
            · simp only [show ((x.f3.length : Int) = 0) = False from eq_false (by omega), if_false, show (x.f3.length == 0) = false by simpa using h3, Bool.and_false, show ¬ (2 : Int) = 1 by decide]
              exact Ev.now _
          · have hj : ∀ b : Bool, (b = true ↔ x.f0 = 3 ∨ x.f0 = 4) → Ev (fun k => vestryref10_right.j1 k (x.f3.length : Int) x.f0 b x.f0 x.f1 x.f2 x.f3) ((if x.f1.toList = [] then x.f2.toList == [] else false) && (if x.f0 = 3 ∨ x.f0 = 4 then decide (2 ≤ x.f3.length) else (x.f0 == 5 && x.f3.length == 2))) := by
              intro b hbb
              refine Ev.step (fun k => by rw [vestryref10_right.j1]) ?_
              by_cases hb : b = true
              · simp only [hb, if_true, hbb.1 hb]
                by_cases h5 : x.f3.length ≥ 2
                · simp only [show ((x.f3.length : Int) ≥ 2) = True from eq_true (by omega), if_true, show decide (2 ≤ x.f3.length) = true by simpa using h5, Bool.and_true]
                  by_cases h6 : x.f1.toList = []
                  · simp only [h6, if_true]; exact Ev.now _
                  · simp only [h6, if_false]; exact Ev.now _
                · simp only [show ((x.f3.length : Int) ≥ 2) = False from eq_false (by omega), if_false, show decide (2 ≤ x.f3.length) = false by simpa using h5, Bool.and_false]
                  exact Ev.now _
              · have hn : ¬ (x.f0 = 3 ∨ x.f0 = 4) := fun h => hb (hbb.2 h)
                simp only [hb, if_false, hn]
                by_cases h5 : x.f0 = 5
                · simp only [h5, if_true, beq_self_eq_true, Bool.true_and]
                  by_cases h7 : x.f3.length = 2
                  · simp only [show ((x.f3.length : Int) = 2) = True from eq_true (by omega), h7, if_true, beq_self_eq_true, Bool.and_true]
                    by_cases h6 : x.f1.toList = []
                    · simp only [h6, if_true]; exact Ev.now _
                    · simp only [h6, if_false]; exact Ev.now _
                  · simp only [show ((x.f3.length : Int) = 2) = False from eq_false (by omega), if_false, show (x.f3.length == 2) = false by simpa using h7, Bool.and_false]
                    exact Ev.now _
                · simp only [h5, if_false, show (x.f0 == 5) = false by simpa using h5, Bool.false_and, Bool.and_false]
                  exact Ev.now _
            by_cases h3 : x.f0 = 3
            · have := hj true (by simp [h3])
              simp only [h1, h2, h3, if_true, if_false, or_self, true_or, beq_self_eq_true, show ¬ (3 : Int) = 1 by decide, show ¬ (3 : Int) = 2 by decide] at this ⊢
              exact this
            · have := hj (x.f0 == 4) (by simp [h3])
              simp only [h1, h2, h3, if_false, or_self, false_or] at this ⊢
              exact this
      have key : ∀ (r i : Nat), x.f3.length - i = r → i ≤ x.f3.length → Ev (fun k => vestryref10_right.l0 k ((d + 1 : Nat) : Int) (x.f3.length : Int) (i : Int) x.f0 x.f1 x.f2 x.f3) ((x.f3.drop i).all (fun y => decide (depthE y ≤ d) && formB y) && (namesB x && kidsB x)) := by
        intro r
        induction r with
        | zero =>
          intro i hr hi
          rw [(List.drop_eq_nil_of_le (by omega) : x.f3.drop i = []), List.all_nil, Bool.true_and]
          exact Ev.step (fun k => by rw [vestryref10_right.l0, if_neg (by omega)]) htail
        | succ r ihr =>
          intro i hr hi
          have hlt : i < x.f3.length := by omega
          have hm : x.f3[i] ∈ x.f3 := List.getElem_mem hlt
          have hwm := wgtL_mem hm
          rw [List.drop_eq_getElem_cons hlt, List.all_cons, Bool.and_assoc]
          have hnext := ihr (i + 1) (by omega) (by omega)
          refine Ev.step (f := fun k => (vestryref10_right.f k x.f3[i].f0 x.f3[i].f1 x.f3[i].f2 x.f3[i].f3 (d : Int)).bind fun t => if t = true then vestryref10_right.l0 k ((d + 1 : Nat) : Int) (x.f3.length : Int) ((i + 1 : Nat) : Int) x.f0 x.f1 x.f2 x.f3 else some false) (fun k => ?_) (Ev.bind (ih _ hm (by omega) d (by omega)) ?_)
          · rw [vestryref10_right.l0, if_pos (by omega), if_pos (by omega), if_pos (by omega), rdT hlt, wrap_ok (x := (i : Int) + 1) (by omega) (by omega), wrap_ok (x := ((d + 1 : Nat) : Int) - 1) (by omega) (by omega), show ((d + 1 : Nat) : Int) - 1 = (d : Int) by omega]
            rfl
          · cases (decide (depthE x.f3[i] ≤ d) && formB x.f3[i]) with
            | true => simp only [if_true, Bool.true_and]; exact hnext
            | false => simp only [Bool.false_eq_true, if_false, Bool.false_and]; exact Ev.now _
      have h2 := key x.f3.length 0 (by omega) (by omega)
      rw [List.drop_zero] at h2
      have e : (x.f3.all (fun y => decide (depthE y ≤ d) && formB y) && (namesB x && kidsB x)) = (decide (depthE x ≤ d + 1) && formB x) := by
        rw [formB_eq, Bool.eq_iff_iff]
        simp only [Bool.and_eq_true, List.all_eq_true, decide_eq_true_eq, depthE_eq x]
        rw [show (1 + depthE.depthL x.f3 ≤ d + 1) ↔ (depthE.depthL x.f3 ≤ d) by omega, depthL_le]
        constructor
        · rintro ⟨h, hn, hk⟩
          exact ⟨fun y hy => (h y hy).1, hn, hk, fun y hy => (h y hy).2⟩
        · rintro ⟨h, hn, hk, hf⟩
          exact ⟨fun y hy => ⟨h y hy, hf y hy⟩, hn, hk⟩
      rw [e] at h2
      exact Ev.step (f := fun k => vestryref10_right.l0 k ((d + 1 : Nat) : Int) (x.f3.length : Int) ((0 : Nat) : Int) x.f0 x.f1 x.f2 x.f3) (fun k => by rw [vestryref10_right.f, if_neg (by omega)]; rfl) h2
def rightB (x : S24) : Bool := decide (depthE x ≤ 16) && (formB x && decide ((leavesB x).length ≤ 32))
theorem refRight_ev (x : S24) (hw : wgt x ≤ 1000000) : Ev (fun k => vestryref10_Right.f k x.f0 x.f1 x.f2 x.f3) (rightB x) := by
  unfold vestryref10_Right.f rightB
  refine Ev.bind (right_ev x (by omega) 16 (by omega)) ?_
  rw [← Bool.and_assoc]
  cases (decide (depthE x ≤ 16) && formB x) with
  | true =>
    simp only [if_true, Bool.true_and]
    refine Ev.bind (refLeaves_ev x hw) ?_
    rw [show decide ((leavesB x).length ≤ 32) = decide (((leavesB x).length : Int) ≤ 32) by rw [Bool.eq_iff_iff]; simp; omega]
    exact Ev.now _
  | false => simp only [Bool.false_eq_true, if_false, Bool.false_and]; exact Ev.now _
theorem exprRight_ev (x : S24) (hw : wgt x ≤ 1000000) : Ev (fun k => expr_Right.f k x.f0 x.f1 x.f2 x.f3) (rightB x) := by
  unfold expr_Right.f rightB
  refine Ev.bind (exprDepth_ev x (by omega)) ?_
  have hl := leaves_wgt x
  by_cases h : depthE x ≤ 16
  · simp only [show ((depthE x : Int) ≤ 16) = True from eq_true (by omega), if_true, show decide (depthE x ≤ 16) = true by simpa using h, Bool.true_and, expr_form.f, Option.bind_some, S24.eta]
    cases formB x with
    | true =>
      simp only [if_true, Bool.true_and, expr_few.f, S24.eta, show (leavesB x).length ≤ 4611686018427387904 by omega, Option.bind_some]
      exact Ev.now _
    | false => simp only [Bool.false_eq_true, if_false, Bool.false_and]; exact Ev.now _
  · simp only [show ((depthE x : Int) ≤ 16) = False from eq_false (by omega), if_false, show decide (depthE x ≤ 16) = false by simpa using h, Bool.false_and]
    exact Ev.now _
end Go.Proofs.YtigghbfcflnoeaaDoor.Y
end
section
namespace Go.Proofs.YtigghbfcflnoeaaDoor.Y
open Go.RowKit Go.Proofs.YtigghbfcflnoeaaDoorW.PrintWords Go.Proofs.YtigghbfcflnoeaaDoorW.PrintLast Go.Proofs.YtigghbfcflnoeaaDoorW.PrintMore
attribute [local go_sem] max2_int min2_int max_two min_two max_three min_three max_four min_four
set_option linter.unusedVariables false
set_option linter.unusedSimpArgs false
theorem refCompare_ev : ∀ x y : S24, bdB x ∨ bdB y → Ev (fun k => vestryref10_Compare.f k x.f0 x.f1 x.f2 x.f3 y.f0 y.f1 y.f2 y.f3) (cmpE x y) := by
  intro x
  induction x using S24.ind with
  | h x ih =>
    intro y hb
    have b1 : x.f1.size ≤ 140737488351232 ∨ y.f1.size ≤ 140737488351232 := hb.imp (fun h => ((bdB_eq x).1 h).1) (fun h => ((bdB_eq y).1 h).1)
    have b2 : x.f2.size ≤ 140737488351232 ∨ y.f2.size ≤ 140737488351232 := hb.imp (fun h => ((bdB_eq x).1 h).2.1) (fun h => ((bdB_eq y).1 h).2.1)
    have b3 : x.f3.length ≤ 2199023255488 ∨ y.f3.length ≤ 2199023255488 := hb.imp (fun h => ((bdB_eq x).1 h).2.2.1) (fun h => ((bdB_eq y).1 h).2.2.1)
    have b4 : ∀ (i : Nat) (h1 : i < x.f3.length) (h2 : i < y.f3.length), bdB x.f3[i] ∨ bdB y.f3[i] := fun i h1 h2 => hb.imp (fun h => ((bdB_eq x).1 h).2.2.2 _ (List.getElem_mem h1)) (fun h => ((bdB_eq y).1 h).2.2.2 _ (List.getElem_mem h2))
    have key : ∀ (r i : Nat), x.f3.length - i = r → i ≤ x.f3.length → i ≤ y.f3.length → Ev (fun k => vestryref10_Compare.l0 k (i : Int) x.f0 x.f1 x.f2 x.f3 y.f0 y.f1 y.f2 y.f3) (cmpE.cmpL (x.f3.drop i) (y.f3.drop i)) := by
      intro r
      induction r with
      | zero =>
        intro i hr hi hiy
        rw [(List.drop_eq_nil_of_le (by omega) : x.f3.drop i = [])]
        refine Ev.step (f := fun k => vestryref10_Compare.j1 k (i : Int) false x.f0 x.f1 x.f2 x.f3 y.f0 y.f1 y.f2 y.f3) (fun k => by rw [vestryref10_Compare.l0, if_neg (by omega)]) (Ev.step (fun k => by rw [vestryref10_Compare.j1, if_neg (by simp)]) ?_)
        by_cases h : i < y.f3.length
        · rw [List.drop_eq_getElem_cons h, cmpE.cmpL]
          exact Ev.congr (fun _ => if_pos (by omega)) (Ev.now _)
        · rw [(List.drop_eq_nil_of_le (by omega) : y.f3.drop i = []), cmpE.cmpL]
          exact Ev.congr (fun _ => by rw [if_neg (by omega), if_neg (by omega)]) (Ev.now _)
      | succ r ihr =>
        intro i hr hi hiy
        have hlt : i < x.f3.length := by omega
        have hm : x.f3[i] ∈ x.f3 := List.getElem_mem hlt
        rw [List.drop_eq_getElem_cons hlt]
        by_cases h : i < y.f3.length
        · rw [List.drop_eq_getElem_cons h, cmpE.cmpL]
          have hnext := ihr (i + 1) (by omega) (by omega) (by omega)
          refine Ev.step (f := fun k => vestryref10_Compare.j1 k (i : Int) true x.f0 x.f1 x.f2 x.f3 y.f0 y.f1 y.f2 y.f3) (fun k => by rw [vestryref10_Compare.l0, if_pos (by omega), show decide ((i : Int) < (y.f3.length : Int)) = true by simp; omega])
            (Ev.step (f := fun k => (vestryref10_Compare.f k x.f3[i].f0 x.f3[i].f1 x.f3[i].f2 x.f3[i].f3 y.f3[i].f0 y.f3[i].f1 y.f3[i].f2 y.f3[i].f3).bind fun t => if t = 0 then vestryref10_Compare.l0 k ((i + 1 : Nat) : Int) x.f0 x.f1 x.f2 x.f3 y.f0 y.f1 y.f2 y.f3 else some t) (fun k => ?_) (Ev.bind (ih _ hm y.f3[i] (b4 i hlt h)) ?_))
          · rw [vestryref10_Compare.j1, if_pos rfl, if_pos (by omega), if_pos (by omega), if_pos (by omega), rdT hlt, rdT h, wrap_ok (x := (i : Int) + 1) (by omega) (by omega)]
            rfl
          · by_cases hz : cmpE x.f3[i] y.f3[i] = 0
            · simp only [hz, if_true, ne_eq, not_true_eq_false, if_false]
              exact hnext
            · simp only [hz, if_false, ne_eq, not_false_eq_true, if_true]
              exact Ev.now _
        · rw [(List.drop_eq_nil_of_le (by omega) : y.f3.drop i = []), cmpE.cmpL]
          refine Ev.step (f := fun k => vestryref10_Compare.j1 k (i : Int) false x.f0 x.f1 x.f2 x.f3 y.f0 y.f1 y.f2 y.f3) (fun k => by rw [vestryref10_Compare.l0, if_pos (by omega), show decide ((i : Int) < (y.f3.length : Int)) = false by simp; omega]) (Ev.step (fun k => by rw [vestryref10_Compare.j1, if_neg (by simp)]) ?_)
          exact Ev.congr (fun _ => by rw [if_neg (by omega), if_pos (by omega)]) (Ev.now _)
    have h0 := key x.f3.length 0 (by omega) (by omega) (by omega)
    rw [List.drop_zero, List.drop_zero] at h0
    rw [cmpE_eq]
    refine Ev.step (fun k => by rw [vestryref10_Compare.f]) ?_
    unfold cmpI
    by_cases h1 : x.f0 < y.f0
    · simp only [h1, if_true]
      exact Ev.now _
    · by_cases h2 : y.f0 < x.f0
      · simp only [h1, h2, if_true, if_false, gt_iff_lt]
        exact Ev.now _
      · simp only [h1, h2, if_false, gt_iff_lt, ne_eq, not_true_eq_false]
        refine Ev.bind (Order_ev x.f1 y.f1 (by omega)) ?_
        by_cases h3 : cmpS x.f1 y.f1 = 0
        · simp only [h3, if_true, not_true_eq_false, if_false]
          refine Ev.bind (Order_ev x.f2 y.f2 (by omega)) ?_
          by_cases h4 : cmpS x.f2 y.f2 = 0
          · simp only [h4, if_true, not_true_eq_false, if_false]
            exact h0
          · simp only [h4, if_false, not_false_eq_true, if_true]
            exact Ev.bind (Order_ev x.f2 y.f2 (by omega)) (Ev.now _)
        · simp only [h3, if_false, not_false_eq_true, if_true]
          exact Ev.bind (Order_ev x.f1 y.f1 (by omega)) (Ev.now _)
end Go.Proofs.YtigghbfcflnoeaaDoor.Y
end
