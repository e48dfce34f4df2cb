/- A part of the proof of the claim's statement: plain laws and walks (some printed by a program over the kit's printer). It has no conditions of its own. -/
import Derived.Test.YtigghbfcflnoeaaDoorVf5
import Derived.ProofKit
import Derived.OpenShut
import Derived.Lay
import Derived.Lib.SmallJoins
import Derived.LaidMore
import Derived.Handy
import Derived.Test.YtigghbfcflnoeaaDoorRows
section
namespace Go.Proofs.YtigghbfcflnoeaaDoor.Y
open Go.RowKit Go.Proofs.YtigghbfcflnoeaaDoorW.PrintWords Go.Proofs.YtigghbfcflnoeaaDoorW.PrintLast Go.Proofs.YtigghbfcflnoeaaDoorW.PrintMore
attribute [local go_sem] max2_int min2_int max_two min_two max_three min_three max_four min_four
set_option linter.unusedVariables false
set_option linter.unusedSimpArgs false
set_option maxRecDepth 100000
theorem row_own : ownKnob Tryd.prog.godebug = none := by kernel_rfl
theorem row_laidOut : laidOutB Tryd.prog = true := by kernel_rfl
theorem rr24 : Tryd.prog.readableRec 24 = true := by kernel_rfl
theorem b24 : Tryd.prog.bytesOf 24 = 64 := by kernel_rfl
theorem c24 : Tryd.prog.cellsOf 24 = 4 := by kernel_rfl
theorem c22 : Tryd.prog.cellsOf 22 = 1 := by kernel_rfl
theorem c9 : Tryd.prog.cellsOf 9 = 1 := by kernel_rfl
theorem c3 : Tryd.prog.cellsOf 3 = 1 := by kernel_rfl
theorem c200 : Tryd.prog.cellsOf 200 = 3 := by kernel_rfl
theorem gRes : Tryd.prog.globalNamed "vestry/name.reserved" = some 1 := by kernel_rfl
theorem gResT : (Tryd.prog.globals[1]?).map (·.type) = some 200 := by kernel_rfl
theorem four {cs : List Value} (h : cs.length = 4) : ∃ a b c d, cs = [a, b, c, d] := by
  match cs, h with
  | [a, b, c, d], _ => exact ⟨a, b, c, d, rfl⟩
theorem cells_get {w : World} {base : Nat} {a : Addr} {n : Nat} {cs : List Value} (h : w.cells? base a n = some cs) : cs.length = n ∧ ∀ i u, cs[i]? = some u → w.cell? (a.add i) = some u := by
  unfold World.cells? at h
  split at h
  · have hl := mapM_some_length h
    simp only [List.length_range] at hl
    refine ⟨hl, fun i u hu => ?_⟩
    have hi : i < n := by rw [← hl]; exact (List.getElem?_eq_some_iff.mp hu).1
    have := mapM_some_get h i i (by simp [hi])
    rw [this, hu]
  · cases h
theorem weightsAll_mem {P : Program} {H : Type} {e : TypeId} {d : DataW H} : ∀ {ds : List (DataW H)}, d ∈ ds → ∀ n ∈ DataW.weights P e d, n ∈ DataW.weightsAll P e ds := by
  intro ds
  induction ds with
  | nil => intro h; cases h
  | cons x xs ih =>
    intro h n hn
    rw [DataW.weightsAll]
    rcases List.mem_cons.mp h with rfl | h
    · exact List.mem_append_left _ hn
    · exact List.mem_append_right _ (ih h n hn)
theorem open_ex {H : Type} {enc : TypeId × Value → H} {w : World} {base : Nat} {sp : Nat → Bool} {hd : Bool} : ∀ (fuel : Nat) (cs : List Value) (x : DataW H × List MemPlace),
    DataW.trod enc Tryd.prog w base sp hd fuel 24 cs = some x → (∀ n ∈ DataW.weights Tryd.prog 24 x.1, n ≤ reachBytes) → ∃ y : S24, k24.K w y cs ∧ bdB y := by
  intro fuel
  induction fuel using Nat.strongRecOn with
  | ind fuel ih =>
    intro cs x h hw
    obtain ⟨xs, n, rfl, rfl, hl, hlen, hf⟩ := DataW.trod_struct Tryd.underlying24 h
    rw [c24] at hl
    obtain ⟨a, b, c, d, rfl⟩ := four hl
    match xs, hlen with
    | [y0, y1, y2, y3], _ =>
      have h0 := hf 0 _ rfl
      have h1 := hf 1 _ rfl
      have h2 := hf 2 _ rfl
      have h3 := hf 3 _ rfl
      simp only [c3, c9, c22, List.drop_zero, List.drop_succ_cons, List.take_succ_cons, List.take_zero, List.getElem?_cons_zero, List.getElem?_cons_succ] at h0 h1 h2 h3
      obtain ⟨k, e0, r0, _⟩ := DataW.trod_int Tryd.underlying3 h0
      obtain ⟨s1, e1, r1, _⟩ := DataW.trod_string Tryd.underlying9 h1
      obtain ⟨s2, e2, r2, _⟩ := DataW.trod_string Tryd.underlying9 h2
      obtain rfl : a = .int .i64 k := by simpa [c3, c9, c22] using e0
      obtain rfl : b = .string s1 := by simpa [c3, c9, c22] using e1
      obtain rfl : c = .string s2 := by simpa [c3, c9, c22] using e2
      have W : ∀ n ∈ s1.data.toList.length :: s2.data.toList.length :: DataW.weights Tryd.prog 22 y3.1, n ≤ reachBytes := by
        intro n hn
        apply hw
        rw [r0, r1, r2]
        simpa [DataW.weights, Tryd.underlying24, DataW.weightsEach] using hn
      have z1 : s1.size ≤ 140737488351232 := by have := W _ (List.mem_cons_self); rw [data_length] at this; exact this
      have z2 : s2.size ≤ 140737488351232 := by have := W _ (List.mem_cons_of_mem _ List.mem_cons_self); rw [data_length] at this; exact this
      rcases DataW.trod_slice Tryd.underlying22 h3 with ⟨e3, r3⟩ | ⟨ad, len, cap, elems, rest, m, rfl, e3, r3, hb, hlc, hcm, hel, hrow, _, _⟩
      · obtain rfl : d = .slice none 0 0 := by simpa [c3, c9, c22] using e3
        refine ⟨⟨k, s1, s2, []⟩, k24_mk w ⟨k, s1, s2, []⟩ (A3 := none) (c3 := 0) (Nat.le_refl _) ⟨rfl, by simp, fun h => absurd h (by simp)⟩, ?_⟩
        rw [bdB_eq]
        exact ⟨z1, z2, by simp, fun y hy => by cases hy⟩
      · obtain rfl : d = .slice (some ad) len cap := by simpa [c3, c9, c22] using e3
        have Wk : ∀ n ∈ (elems.length + rest.length) * 64 :: (DataW.weightsAll Tryd.prog 24 (elems.map (·.1)) ++ DataW.weightsAll Tryd.prog 24 (rest.map (·.1))), n ≤ reachBytes := by
          intro n hn
          apply W
          rw [r3]
          simp only [DataW.weights, Tryd.underlying22, b24, List.length_map]
          exact List.mem_cons_of_mem _ (List.mem_cons_of_mem _ hn)
        have kid : ∀ i, i < len → ∃ (y : S24) (c : List Value), k24.K w y c ∧ bdB y ∧ ∀ j u, c[j]? = some u → w.cell? (ad.add (i * 4 + j)) = some u := by
          intro i hi
          have hr := hrow i hi
          have hil : i < elems.length := by omega
          rw [List.getElem?_eq_getElem hil, c24] at hr
          obtain ⟨c, hc, ht⟩ := Option.bind_eq_some_iff.mp hr
          obtain ⟨_, hcell⟩ := cells_get hc
          obtain ⟨y, hK, hB⟩ := ih m (by omega) c _ ht (fun n hn => Wk n (List.mem_cons_of_mem _ (List.mem_append_left _ (weightsAll_mem (List.mem_map_of_mem (List.getElem_mem hil)) n hn))))
          refine ⟨y, c, hK, hB, fun j u hu => ?_⟩
          rw [← Addr.add_add]
          exact hcell j u hu
        have build : ∀ q, q ≤ len → ∃ ys : List S24, ys.length = q ∧ (∀ y ∈ ys, bdB y) ∧ ∀ j p, ys[j]? = some p → ∃ c, k24.K w p c ∧ ∀ i u, c[i]? = some u → w.cell? (ad.add (j * 4 + i)) = some u := by
          intro q
          induction q with
          | zero => exact fun _ => ⟨[], rfl, (fun y hy => by cases hy), (fun j p hj => by simp at hj)⟩
          | succ q ihq =>
            intro hq
            obtain ⟨ys, h1, h2, h3⟩ := ihq (by omega)
            obtain ⟨y, c, hK, hB, hc⟩ := kid q (by omega)
            refine ⟨ys ++ [y], by simp [h1], fun z hz => ?_, fun j p hj => ?_⟩
            · rcases List.mem_append.mp hz with hz | hz
              · exact h2 z hz
              · obtain rfl := List.mem_singleton.mp hz; exact hB
            · by_cases hlt : j < q
              · rw [List.getElem?_append_left (by omega)] at hj
                exact h3 j p hj
              · rw [List.getElem?_append_right (by omega)] at hj
                have hj0 : j = q := by
                  have := (List.getElem?_eq_some_iff.mp hj).1
                  simp at this
                  omega
                subst hj0
                rw [h1, Nat.sub_self] at hj
                obtain rfl : y = p := by simpa using hj
                exact ⟨c, hK, hc⟩
        obtain ⟨ys, g1, g2, g3⟩ := build len (Nat.le_refl _)
        have hcm' : cap ≤ 9223372036854775807 := hcm
        have hC : k24.C w (some ad) ys.length ys := ⟨rfl, by omega, fun _ => ⟨ad, rfl, fun j p hj => by
          obtain ⟨c, hK, hc⟩ := g3 j p hj
          exact ⟨c, k24.K_len hK, hK, hc⟩⟩⟩
        refine ⟨⟨k, s1, s2, ys⟩, ?_, ?_⟩
        · have := k24_mk w ⟨k, s1, s2, ys⟩ (A3 := some ad) (c3 := cap) (show ys.length ≤ cap by omega) hC
          simp only at this
          rw [g1] at this
          exact this
        · rw [bdB_eq]
          refine ⟨z1, z2, ?_, g2⟩
          have := Wk _ List.mem_cons_self
          have hb2 : reachBytes = 140737488351232 := rfl
          simp only
          omega
theorem arg_ex {H : Type} {enc : TypeId × Value → H} {w : World} {base b0 : Nat} {sp : Nat → Bool} {hd : Bool} {v : Value} {d : DataW H} {p : List MemPlace} {r : Reach} (hv : Value.okWide Tryd.prog w r b0 24 v)
    (h : DataW.Trod enc Tryd.prog w base sp hd 24 v d p) (hw : ∀ n ∈ DataW.weights Tryd.prog 24 d, n ≤ reachBytes) :
    ∃ (y : S24) (A : Option Addr) (c : Nat), v = .agg #[.int .i64 y.f0, .string y.f1, .string y.f2, .slice A y.f3.length c] ∧ y.f3.length ≤ c ∧ Kd.C k24 w A y.f3.length y.f3 ∧ bdB y := by
  obtain ⟨cs, rfl, hsz⟩ := Go.WideShapes.okWide_struct Tryd.underlying24 hv
  obtain ⟨fuel, hf⟩ := h
  obtain ⟨y, hK, hB⟩ := open_ex fuel _ _ hf hw
  obtain ⟨A, c, e, hl, hC⟩ := k24_open hK
  refine ⟨y, A, c, ?_, hl, hC, hB⟩
  congr 1
  apply Array.toList_inj.mp
  simpa [Value.cells] using e
theorem ba_ext' {a b : ByteArray} (h : a.data.toList = b.data.toList) : a = b := by
  obtain ⟨⟨a⟩⟩ := a
  obtain ⟨⟨b⟩⟩ := b
  obtain rfl : a = b := h
  rfl
theorem laid_of {w : World} (h : laidMetH Tryd.prog Rows.exprMatchesReferenceRow.laid w) : Laid w := by
  rw [MakeChecks.laidMetH_plain _ _ _ (by kernel_rfl)] at h
  obtain ⟨ps, ⟨g0, t0, cs0, f0, p0, q0, hg0, ht0, hv0, hd0, _⟩, _, _⟩ := h
  obtain rfl := Option.some.inj (gRes.symm.trans hg0)
  obtain rfl := Option.some.inj (gResT.symm.trans ht0)
  obtain ⟨xs, m, rfl, hx, hlen, hn, hel⟩ := DataW.trod_array Tryd.underlying200 hd0
  rw [c200] at hlen
  obtain ⟨l⟩ := cs0
  match l, hlen with
  | [a, b, c], _ =>
    match xs, hn with
    | [x0, x1, x2], _ =>
      have h0 := hel 0 (by decide)
      have h1 := hel 1 (by decide)
      have h2 := hel 2 (by decide)
      simp only [c9, Nat.zero_mul, Nat.one_mul, Nat.mul_one, List.drop_zero, List.drop_succ_cons, List.take_succ_cons, List.take_zero, List.getElem?_cons_zero, List.getElem?_cons_succ] at h0 h1 h2
      obtain ⟨s0, e0, r0, _⟩ := DataW.trod_string Tryd.underlying9 h0
      obtain ⟨s1, e1, r1, _⟩ := DataW.trod_string Tryd.underlying9 h1
      obtain ⟨s2, e2, r2, _⟩ := DataW.trod_string Tryd.underlying9 h2
      rw [r0, r1, r2] at hx
      simp [Rows.laid_vestry_name_reserved] at hx
      obtain ⟨⟨x0', x1', x2'⟩, _⟩ := hx
      have g0 : s0 = resD := ba_ext' x0'.symm
      have g1 : s1 = resR := ba_ext' x1'.symm
      have g2 : s2 = resP := ba_ext' x2'.symm
      subst g0 g1 g2
      obtain rfl : a = .string resD := by simpa using e0
      obtain rfl : b = .string resR := by simpa using e1
      obtain rfl : c = .string resP := by simpa using e2
      exact ⟨World.var?_cell hg0 hv0 0, World.var?_cell hg0 hv0 1, World.var?_cell hg0 hv0 2⟩
end Go.Proofs.YtigghbfcflnoeaaDoor.Y
end
section
namespace Go.Proofs.YtigghbfcflnoeaaDoor.Y
open Go.RowKit Go.Proofs.YtigghbfcflnoeaaDoorW.PrintWords Go.Proofs.YtigghbfcflnoeaaDoorW.PrintLast Go.Proofs.YtigghbfcflnoeaaDoorW.PrintMore
attribute [local go_sem] max2_int min2_int max_two min_two max_three min_three max_four min_four
set_option linter.unusedVariables false
set_option linter.unusedSimpArgs false
set_option maxRecDepth 100000
theorem rr42 : Tryd.prog.readableRec 42 = true := by kernel_rfl
theorem rr44 : Tryd.prog.readableRec 44 = true := by kernel_rfl
theorem b44 : Tryd.prog.bytesOf 44 = 32 := by kernel_rfl
theorem c44 : Tryd.prog.cellsOf 44 = 2 := by kernel_rfl
theorem c42 : Tryd.prog.cellsOf 42 = 7 := by kernel_rfl
theorem c40 : Tryd.prog.cellsOf 40 = 1 := by kernel_rfl
theorem two {cs : List Value} (h : cs.length = 2) : ∃ a b, cs = [a, b] := by
  match cs, h with
  | [a, b], _ => exact ⟨a, b, rfl⟩
theorem seven {cs : List Value} (h : cs.length = 7) : ∃ a b c d e f g, cs = [a, b, c, d, e, f, g] := by
  match cs, h with
  | [a, b, c, d, e, f, g], _ => exact ⟨a, b, c, d, e, f, g, rfl⟩
theorem open44 {H : Type} {enc : TypeId × Value → H} {w : World} {base : Nat} {sp : Nat → Bool} {hd : Bool} {fuel : Nat} {cs : List Value} {x : DataW H × List MemPlace}
    (h : DataW.trod enc Tryd.prog w base sp hd fuel 44 cs = some x) : ∃ y : S44, k44.K w y cs := by
  obtain ⟨xs, n, rfl, rfl, hl, hlen, hf⟩ := DataW.trod_struct Tryd.underlying44 h
  rw [c44] at hl
  obtain ⟨a, b, rfl⟩ := two hl
  match xs, hlen with
  | [y0, y1], _ =>
    have h0 := hf 0 _ rfl
    have h1 := hf 1 _ rfl
    simp only [c9, List.drop_zero, List.drop_succ_cons, List.take_succ_cons, List.take_zero, List.getElem?_cons_zero, List.getElem?_cons_succ] at h0 h1
    obtain ⟨s0, e0, r0, _⟩ := DataW.trod_string Tryd.underlying9 h0
    obtain ⟨s1, e1, r1, _⟩ := DataW.trod_string Tryd.underlying9 h1
    obtain rfl : a = .string s0 := by simpa [c9] using e0
    obtain rfl : b = .string s1 := by simpa [c9] using e1
    exact ⟨⟨s0, s1⟩, k44_mk w ⟨s0, s1⟩⟩
theorem open40 {H : Type} {enc : TypeId × Value → H} {w : World} {base : Nat} {sp : Nat → Bool} {hd : Bool} {fuel : Nat} {v : Value} {x : DataW H × List MemPlace}
    (h : DataW.trod enc Tryd.prog w base sp hd fuel 40 [v] = some x) : ∃ (ys : List S44) (A : Option Addr) (c : Nat), v = .slice A ys.length c ∧ ys.length ≤ c ∧ k44.C w A ys.length ys := by
  rcases DataW.trod_slice Tryd.underlying40 h with ⟨e3, r3⟩ | ⟨ad, len, cap, elems, rest, m, rfl, e3, r3, hb, hlc, hcm, hel, hrow, _, _⟩
  · obtain rfl : v = .slice none 0 0 := by simpa using e3
    exact ⟨[], none, 0, rfl, Nat.le_refl _, rfl, by simp, fun h => absurd h (by simp)⟩
  · obtain rfl : v = .slice (some ad) len cap := by simpa using e3
    have kid : ∀ i, i < len → ∃ (y : S44) (c : List Value), k44.K w y c ∧ ∀ j u, c[j]? = some u → w.cell? (ad.add (i * 2 + j)) = some u := by
      intro i hi
      have hr := hrow i hi
      have hil : i < elems.length := by omega
      rw [List.getElem?_eq_getElem hil, c44] at hr
      obtain ⟨c, hc, ht⟩ := Option.bind_eq_some_iff.mp hr
      obtain ⟨_, hcell⟩ := cells_get hc
      obtain ⟨y, hK⟩ := open44 ht
      refine ⟨y, c, hK, fun j u hu => ?_⟩
      rw [← Addr.add_add]
      exact hcell j u hu
    have build : ∀ q, q ≤ len → ∃ ys : List S44, ys.length = q ∧ ∀ j p, ys[j]? = some p → ∃ c, k44.K w p c ∧ ∀ i u, c[i]? = some u → w.cell? (ad.add (j * 2 + i)) = some u := by
      intro q
      induction q with
      | zero => exact fun _ => ⟨[], rfl, (fun j p hj => by simp at hj)⟩
      | succ q ihq =>
        intro hq
        obtain ⟨ys, h1, h3⟩ := ihq (by omega)
        obtain ⟨y, c, hK, hc⟩ := kid q (by omega)
        refine ⟨ys ++ [y], by simp [h1], fun j p hj => ?_⟩
        by_cases hlt : j < q
        · rw [List.getElem?_append_left (by omega)] at hj
          exact h3 j p hj
        · rw [List.getElem?_append_right (by omega)] at hj
          have hj0 : j = q := by
            have := (List.getElem?_eq_some_iff.mp hj).1
            simp at this
            omega
          subst hj0
          rw [h1, Nat.sub_self] at hj
          obtain rfl : y = p := by simpa using hj
          exact ⟨c, hK, hc⟩
    obtain ⟨ys, g1, g3⟩ := build len (Nat.le_refl _)
    have hcm' : cap ≤ 9223372036854775807 := hcm
    refine ⟨ys, some ad, cap, by rw [g1], by omega, rfl, by omega, fun _ => ⟨ad, rfl, fun j p hj => ?_⟩⟩
    obtain ⟨c, hK, hc⟩ := g3 j p hj
    exact ⟨c, k44.K_len hK, hK, hc⟩
theorem arg_ex42 {H : Type} {enc : TypeId × Value → H} {w : World} {base b0 : Nat} {sp : Nat → Bool} {hd : Bool} {v : Value} {d : DataW H} {p : List MemPlace} {r : Reach} (hv : Value.okWide Tryd.prog w r b0 42 v)
    (h : DataW.Trod enc Tryd.prog w base sp hd 42 v d p) (hw : ∀ n ∈ DataW.weights Tryd.prog 42 d, n ≤ reachBytes) :
    ∃ (y : S42) (A2 : Option Addr) (c2 : Nat) (A6 : Option Addr) (c6 : Nat), v = .agg #[.string y.f0, .int .i64 y.f1, .slice A2 y.f2.length c2, .int .i64 y.f3.f0, .string y.f3.f1, .string y.f3.f2, .slice A6 y.f3.f3.length c6] ∧
      y.f2.length ≤ c2 ∧ Kd.C k44 w A2 y.f2.length y.f2 ∧ y.f3.f3.length ≤ c6 ∧ Kd.C k24 w A6 y.f3.f3.length y.f3.f3 := by
  obtain ⟨cs, rfl, hsz⟩ := Go.WideShapes.okWide_struct Tryd.underlying42 hv
  obtain ⟨fuel, hf0⟩ := h
  obtain ⟨xs, n, hxe, hpe, hl, hlen, hf⟩ := DataW.trod_struct Tryd.underlying42 hf0
  rw [c42] at hl
  obtain ⟨a, b, c, e, f, g, i, hcs⟩ := seven hl
  match xs, hlen with
  | [y0, y1, y2, y3], _ =>
    rw [hcs] at hf
    have h0 := hf 0 _ rfl
    have h1 := hf 1 _ rfl
    have h2 := hf 2 _ rfl
    have h3 := hf 3 _ rfl
    simp only [c3, c9, c40, c24, List.drop_zero, List.drop_succ_cons, List.take_succ_cons, List.take_zero, List.getElem?_cons_zero, List.getElem?_cons_succ] at h0 h1 h2 h3
    obtain ⟨s0, e0, r0, _⟩ := DataW.trod_string Tryd.underlying9 h0
    obtain ⟨k1, e1, r1, _⟩ := DataW.trod_int Tryd.underlying3 h1
    obtain rfl : a = .string s0 := by simpa [c3, c9, c40] using e0
    obtain rfl : b = .int .i64 k1 := by simpa [c3, c9, c40] using e1
    obtain ⟨ys, A2, c2, rfl, l2, g2⟩ := open40 h2
    have hw3 : ∀ n ∈ DataW.weights Tryd.prog 24 y3.1, n ≤ reachBytes := by
      intro n hn
      apply hw
      have hd : d = _ := congrArg Prod.fst hpe
      rw [hd]
      simp only [DataW.weights, Tryd.underlying42, DataW.weightsEach, List.map_cons, List.map_nil]
      simp [DataW.weightsEach, hn]
    have h3' : DataW.trod enc Tryd.prog w base sp hd n 24 [e, f, g, i] = some y3 := by simpa [c24] using h3
    obtain ⟨y, hK, _⟩ := open_ex _ _ _ h3' hw3
    obtain ⟨A6, c6, ey, l6, g6⟩ := k24_open hK
    simp only [List.cons.injEq] at ey
    obtain ⟨rfl, rfl, rfl, rfl, _⟩ := ey
    refine ⟨⟨s0, k1, ys, y⟩, A2, c2, A6, c6, ?_, l2, g2, l6, g6⟩
    congr 1
    apply Array.toList_inj.mp
    simpa [Value.cells] using hcs
theorem arg_ex44 {H : Type} {enc : TypeId × Value → H} {w : World} {base b0 : Nat} {sp : Nat → Bool} {hd : Bool} {v : Value} {d : DataW H} {p : List MemPlace} {r : Reach} (hv : Value.okWide Tryd.prog w r b0 44 v)
    (h : DataW.Trod enc Tryd.prog w base sp hd 44 v d p) : ∃ y : S44, v = .agg #[.string y.f0, .string y.f1] := by
  obtain ⟨cs, rfl, hsz⟩ := Go.WideShapes.okWide_struct Tryd.underlying44 hv
  obtain ⟨fuel, hf⟩ := h
  obtain ⟨y, hK⟩ := open44 hf
  refine ⟨y, ?_⟩
  congr 1
  apply Array.toList_inj.mp
  simpa [Value.cells] using k44_open hK
end Go.Proofs.YtigghbfcflnoeaaDoor.Y
end
