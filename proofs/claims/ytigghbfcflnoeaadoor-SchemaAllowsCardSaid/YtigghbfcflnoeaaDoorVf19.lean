/- A part of the proof of the claim's statement: plain laws and walks (some printed by a program over the kit's printer). It has no conditions of its own. -/
import Derived.Test.YtigghbfcflnoeaaDoorVf13
import Derived.Test.YtigghbfcflnoeaaDoorVf10
import Derived.Test.YtigghbfcflnoeaaDoorVf16
import Derived.Test.YtigghbfcflnoeaaDoorVf5
import Derived.Test.YtigghbfcflnoeaaDoorVf12
import Derived.Test.YtigghbfcflnoeaaDoorVf15
import Derived.Test.YtigghbfcflnoeaaDoorVf17
import Derived.Test.YtigghbfcflnoeaaDoorVf18
section
namespace Go.Proofs.YtigghbfcflnoeaaDoor.Y
open Go.RowKit Go.Proofs.YtigghbfcflnoeaaDoorW.PrintWords Go.Proofs.YtigghbfcflnoeaaDoorW.PrintLast Go.Proofs.YtigghbfcflnoeaaDoorW.PrintMore
attribute [local go_sem] max2_int min2_int max_two min_two max_three min_three max_four min_four
set_option linter.unusedVariables false
set_option linter.unusedSimpArgs false
def mbF (k : Nat) (p : ByteArray × S42) : Option Bool := schema_member.f k p.2.f0 p.2.f1 p.2.f2 p.2.f3.f0 p.2.f3.f1 p.2.f3.f2 p.2.f3.f3
def formD (d : S81) : Bool := nameIs d.f0 && decide (d.f1.length ≤ 64)
def formM (k : Nat) (L : List (ByteArray × S42)) : Option Bool := if L.all (fun p => (mbF k p).isSome) then some (L.all fun p => mbF k p == some true) else none
def formS (k : Nat) (l : List S81) : Option Bool := if l.length ≤ 64 then (if l.all formD then formM k (allM l) else some false) else some false
theorem mbF_mono (k : Nat) (p : ByteArray × S42) : LeO (mbF k p) (mbF (k + 1) p) := schema_member.mono _ _ _ _ _ _ _ _
theorem formM_mono (k : Nat) (L : List (ByteArray × S42)) : LeO (formM k L) (formM (k + 1) L) := by
  intro r h
  unfold formM at h ⊢
  split at h
  · rename_i ha
    have h1 : ∀ p ∈ L, mbF (k + 1) p = mbF k p := by
      intro p hp
      have := List.all_eq_true.1 ha p hp
      obtain ⟨b, hb⟩ := Option.isSome_iff_exists.1 this
      rw [hb]
      exact mbF_mono k p b hb
    have h2 : L.all (fun p => (mbF (k + 1) p).isSome) = true := List.all_eq_true.2 fun p hp => by rw [h1 p hp]; exact List.all_eq_true.1 ha p hp
    have h3 : (L.all fun p => mbF (k + 1) p == some true) = (L.all fun p => mbF k p == some true) := by
      rw [Bool.eq_iff_iff, List.all_eq_true, List.all_eq_true]
      exact ⟨fun h p hp => by rw [← h1 p hp]; exact h p hp, fun h p hp => by rw [h1 p hp]; exact h p hp⟩
    rw [if_pos h2, h3]
    exact h
  · cases h
theorem formS_mono (k : Nat) (l : List S81) : LeO (formS k l) (formS (k + 1) l) := by
  unfold formS
  refine LeO.ite (LeO.ite (formM_mono _ _) (LeO.refl _)) (LeO.refl _)
structure E63 (w W : World) (l : List S81) (A : Option Addr) (c : Nat) (r : Bool) : Prop where
  e0 : W.heap[w.heap.size]? = some (scBox l A c)
  e1 : W.heap[w.heap.size + 1]? = some (.cells #[.bool r] 4 (0, 0))
  b : Below w.heap.size w W
theorem E63.far {w W W' : World} {l : List S81} {A : Option Addr} {c : Nat} {r : Bool} (h : E63 w W l A c r) (hh : ∀ k, k < w.heap.size + 2 → k < W.heap.size → W'.heap[k]? = W.heap[k]?) (hb : Below w.heap.size w W') : E63 w W' l A c r :=
  ⟨(hh _ (by omega) (Array.getElem?_eq_some_iff.1 h.e0).1).trans h.e0, (hh _ (by omega) (Array.getElem?_eq_some_iff.1 h.e1).1).trans h.e1, hb⟩
theorem E63.below {w W W' : World} {l : List S81} {A : Option Addr} {c : Nat} {r : Bool} (h : E63 w W l A c r) (hb : Below W.heap.size W W') : E63 w W' l A c r :=
  h.far (fun k _ hk => hb.block k hk) (h.b.trans (hb.mono h.b.size))
theorem E63.put {w W : World} {l : List S81} {A : Option Addr} {c : Nat} {r : Bool} (h : E63 w W l A c r) (b : Bool) : E63 w (W.setCell ⟨w.heap.size + 1, 0, none⟩ (.bool b)) l A c b := by
  refine ⟨(Below.heap_setCell _ _ _ _ (by show w.heap.size ≠ w.heap.size + 1; omega)).trans h.e0, ?_, h.b.setCell (p := ⟨w.heap.size + 1, 0, none⟩) (by show w.heap.size ≤ w.heap.size + 1; omega) _⟩
  have := blk_put h.e1 0 (.bool b) rfl
  simpa using this
theorem results63 (tmps : Array Value) (w : World) (g1 : Nat) (b : Bool) (h2 : tmps.getD 2 undef = .pointer (some ⟨g1, 0, none⟩)) (c1 : w.cell? ⟨g1, 0, none⟩ = some (.bool b)) : (results Tryd.f63 tmps).run Tryd.prog w = .ok (.bool b) w := by
  have h : Tryd.f63.results = #[.cell 2 4] := rfl
  have h2' : tmps[2]?.getD undef = .pointer (some ⟨g1, 0, none⟩) := by simpa using h2
  simp only [results, h]
  simp [h2', asAddr]
  go_simp
theorem end63a {w W : World} {l : List S81} {A : Option Addr} {c : Nat} {b r : Bool} {tmps : Array Value} (HE : E63 w W l A c b) (ht : tmps.getD 2 undef = .pointer (some ⟨w.heap.size + 1, 0, none⟩)) (hr : r = b) :
    bodyPostM Fence.wide 9 Tryd.prog Tryd.f63 (fun e w' => e = .returned (.bool r) ∧ Below w.heap.size w w') Exit.ret { tmps := tmps, defers := [] } W :=
  ⟨_, results63 _ _ (w.heap.size + 1) b ht ((blk_cell HE.e1 0).trans rfl), by rw [hr], HE.b⟩
theorem end63b {w W : World} {l : List S81} {A : Option Addr} {c D : Nat} {b r : Bool} {tmps : Array Value} (HE : E63 w W l A c b) (hK : W.heap[D]? = some (.deferred (some []))) (hD : w.heap.size + 2 ≤ D) (ht : tmps.getD 2 undef = .pointer (some ⟨w.heap.size + 1, 0, none⟩)) (hr : r = b) :
    bodyPostM Fence.wide 9 Tryd.prog Tryd.f63 (fun e w' => e = .returned (.bool r) ∧ Below w.heap.size w w') Exit.ret { tmps := tmps, defers := [{ target := .collected D, args := #[] }] } W :=
  ⟨by simp, .inl ⟨_, _, rfl, run_takeDeferred hK, _, results63 _ _ (w.heap.size + 1) b ht ((blk_cell ((World.putObj_heap_other (by omega)).trans HE.e1) 0).trans rfl), by rw [hr], HE.b.trans ((KpL.putObj (n₀ := w.heap.size) (n₁ := w.heap.size) (Nat.le_refl _) _ D _ (.deferred none) (by omega) hK rfl).low)⟩⟩
theorem formS_no {k : Nat} {l : List S81} {r : Bool} (h : formS k l = some r) (h1 : ¬ l.all formD = true) : r = false := by
  unfold formS at h
  rw [if_neg h1, ite_self] at h
  exact (Option.some.inj h).symm
theorem formS_yes {k : Nat} {l : List S81} {r : Bool} (h : formS k l = some r) (h0 : l.length ≤ 64) (h1 : l.all formD = true) : formM k (allM l) = some r := by
  unfold formS at h
  rw [if_pos h0, if_pos h1] at h
  exact h
theorem formM_some {k : Nat} {L : List (ByteArray × S42)} {r : Bool} (h : formM k L = some r) {p : ByteArray × S42} (hp : p ∈ L) : ∃ b, mbF k p = some b := by
  unfold formM at h
  split at h
  · rename_i ha
    exact Option.isSome_iff_exists.1 (List.all_eq_true.1 ha p hp)
  · cases h
theorem formM_yes {k : Nat} {L : List (ByteArray × S42)} {r : Bool} (h : formM k L = some r) (ha : ∀ p ∈ L, mbF k p = some true) : r = true := by
  unfold formM at h
  split at h
  · rw [← Option.some.inj h]
    exact List.all_eq_true.2 fun p hp => by rw [ha p hp]; rfl
  · cases h
theorem formM_no {k : Nat} {L : List (ByteArray × S42)} {r : Bool} (h : formM k L = some r) {p : ByteArray × S42} (hp : p ∈ L) (ha : mbF k p = some false) : r = false := by
  unfold formM at h
  split at h
  · rw [← Option.some.inj h, Bool.eq_false_iff]
    intro hh
    have := List.all_eq_true.1 hh p hp
    rw [ha] at this
    cases this
  · cases h
theorem all_no {l : List S81} {i : Nat} (hi : i < l.length) (h : formD l[i] = false) : ¬ l.all formD = true := fun ha => by
  have := List.all_eq_true.1 ha _ (List.getElem_mem hi)
  rw [h] at this
  cases this
attribute [local go_sem] Oper.semAt_some
set_option maxHeartbeats 8000000 in
set_option maxRecDepth 100000 in
theorem form_at11 (k : Nat) (l : List S81) (A : Option Addr) (c : Nat) (r : Bool) (w : World) (hL : Laid w) (hC : Kd.C k81 w A l.length l) (h : formS k l = some r) :
    Calls Tryd.prog 63 #[.agg #[.slice A l.length c]] w fun e w' => e = .returned (.bool r) ∧ Below w.heap.size w w' := by
  have HC := Aside0.mk hC
  have HL := Aside0.mk hL
  have H := Aside0.mk h
  have hmax : l.length ≤ 9223372036854775807 := hC.2.1
  clear hC hL h
  refine (callsIn_wide (n := 9)).1 ?_
  refine callsIn_of_wp_marks Tryd.func63 rfl trivial ?_ rfl
  simp only [Tryd.ntmps63, List.size_toArray, List.length_cons, List.length_nil, Nat.reduceAdd, Nat.reduceSub, Array.replicate_succ, Array.replicate_zero, List.push_toArray, List.append_toArray, List.nil_append, List.cons_append]
  have HE := Aside0.mk (show E63 w ((w.alloc (scBox l A c)).alloc (.cells #[.bool false] 4)) l A c false from
    ⟨blk_alloc (blk_new w _) _, (by have := blk_new (w.alloc (scBox l A c)) (.cells #[.bool false] 4); rwa [World.size_alloc] at this), ((Below.refl _ w).alloc (Nat.le_refl _) _).alloc (by simp) _⟩)
  by_cases h64 : l.length ≤ 64
  · have q1 : ((l.length : Int) > 64) = False := eq_false (by omega)
    have q2 : decide ((l.length : Int) > 64) = false := decide_eq_false (by omega)
    have H64 := Aside0.mk h64
    clear h64
    gi_wp2_with fail
    gi_loopw [14] (fun v wr => ∃ i : Nat, v = .int .i64 i ∧ i ≤ l.length ∧ Aside0 (E63 w wr l A c false ∧ (l.take i).all formD = true)) (fun v _ => l.length - (intOf v).toNat)
    case atStart => exact ⟨0, rfl, Nat.zero_le _, ⟨HE.out, by simp⟩⟩
    case round =>
      clear HE q1 q2
      obtain ⟨i, rfl, hi, hO⟩ := hrel
      by_cases hlt : i < l.length
      · obtain ⟨W1, hW1⟩ : ∃ W1, W1 = wr := ⟨_, rfl⟩
        subst hW1
        obtain ⟨ad, A1, c1, e3, x0, x1, hl1, hC1⟩ := at_T81 HC.out (i : Int) (by omega) (by omega)
        rw [rd81 hlt] at x0 x1 hl1 hC1
        simp only [Int.toNat_natCast] at x0 x1
        cases e3
        obtain ⟨d, hd⟩ : ∃ d, l[i] = d := ⟨_, rfl⟩
        rw [hd] at x0 x1 hl1 hC1
        have HD := Aside0.mk hd
        clear hd
        replace x0 := (hO.out.1.b.cell (World.block_lt_of_cell? w _ x0)).trans x0
        replace x1 := (hO.out.1.b.cell (World.block_lt_of_cell? w _ x1)).trans x1
        have p0 : (0 ≤ (i : Int)) = True := eq_true (by omega)
        have p1 : ((i : Int) < (l.length : Int)) = True := eq_true (by omega)
        have qi : (i < l.length) = True := eq_true hlt
        have hm1 := hC1.2.1
        clear hl1 hC1
        have HLT := Aside0.mk hlt
        have HO2 := Aside0.mk (show E63 w (W1.alloc (dfBox d A1 c1)) l (some ad) c false from hO.out.1.below (below_alloc (Below.refl _ _) _))
        have HALL := Aside0.mk hO.out.2
        clear hO
        gi_wp2_with fail
        refine ⟨trivial, (callsIn_wide.2 (name_Is.calls d.f0 (nameIs d.f0) _ (HL.out.below HO2.out.b) rfl)).mono ?_⟩
        rintro e w2 ⟨rfl, hd2⟩
        obtain ⟨q, hq⟩ := hd2
        have HO3 := Aside0.mk (show E63 w w2 l (some ad) c false from hq ▸ HO2.out.below (pw_below_drewN (Below.refl _ _) q))
        have hbx : w2.heap[W1.heap.size]? = some (dfBox d A1 c1) := by rw [hq]; exact blk_drewN (blk_new _ _) q
        have z1 : w2.cell? ⟨W1.heap.size, 1, none⟩ = some (.slice A1 d.f1.length c1) := (blk_cell hbx 1).trans rfl
        have zr : w2.cell? ⟨w.heap.size + 1, 0, none⟩ = some (.bool false) := (blk_cell HO3.out.e1 0).trans rfl
        have zf := blk_frozen HO3.out.e1 0
        clear hq hbx x0 x1 HO2
        by_cases hn : nameIs d.f0 = true
        · by_cases h4 : d.f1.length ≤ 64
          · have q2 : decide ((d.f1.length : Int) > 64) = false := decide_eq_false (by omega)
            have hw1 : wrap64 ((i : Int) + 1) = (i : Int) + 1 := wrap_ok2 (by omega) (by omega)
            have HN := Aside0.mk (show (l.take (i + 1)).all formD = true by
              rw [List.take_succ_eq_append_getElem HLT.out, List.all_append, HALL.out, HD.out]
              simp [formD, hn, h4])
            clear h4
            rw [hn]
            gi_wp2
            go_roundw
            case rel => exact ⟨i + 1, by go_num, HLT.out, ⟨HO3.out, HN.out⟩⟩
            case measure => first | exact meas_ltM HLT.out | (rw [hw1]; exact meas_ltM HLT.out)
          · have q2 : decide ((d.f1.length : Int) > 64) = true := decide_eq_true (by omega)
            have HN := Aside0.mk (show formD l[i] = false by rw [HD.out]; simp [formD]; omega)
            clear h4
            rw [hn]
            gi_wp2
            exact end63a (HO3.out.put false) rfl (formS_no H.out (all_no _ HN.out))
        · have HN := Aside0.mk (show formD l[i] = false by rw [HD.out]; simp [formD, hn])
          rw [Bool.eq_false_iff.mpr hn]
          gi_wp2
          exact end63a (HO3.out.put false) rfl (formS_no H.out (all_no _ HN.out))
      · have hie : i = l.length := by omega
        have q1 : ((i : Int) < (l.length : Int)) = False := eq_false (by omega)
        have HALL := Aside0.mk (show l.all formD = true by have := hO.out.2; rwa [hie, List.take_length] at this)
        have HE := Aside0.mk hO.out.1
        have z0 : wr.cell? ⟨w.heap.size, 0, none⟩ = some (.slice A l.length c) := (blk_cell HE.out.e0 0).trans rfl
        clear hie hO
        gi_wp2_with fail
        refine ⟨trivial, (callsIn_wide.2 (members_calls l A c _)).mono ?_⟩
        rintro e w1 ⟨rfl, rfl⟩
        gi_wp2_with fail
        obtain ⟨W0, hW0⟩ : ∃ W0, wr.alloc (scBox l A c) = W0 := ⟨_, rfl⟩
        have hb0 : Below w.heap.size w W0 := hW0 ▸ HE.out.b.trans ((below_alloc (Below.refl _ _) _).mono HE.out.b.size)
        have hE0 : E63 w W0 l A c false := hW0 ▸ HE.out.below (below_alloc (Below.refl _ _) _)
        have q3 : W0.heap[wr.heap.size]? = some (scBox l A c) := hW0 ▸ blk_new wr _
        have hsz : w.heap.size + 2 ≤ W0.heap.size := by have := (Array.getElem?_eq_some_iff.1 hE0.e1).1; omega
        rw [hW0]
        clear hW0
        have own : ∀ (b : Bool) W W' (row : Option Nat), E63 w W l A c b → W.grownBy W' row → (∀ r, row = some r → W0.heap.size ≤ r) → E63 w W' l A c b := by
          intro b W W' row h hg hr
          refine h.far (fun k hk hlt => hg.block _ hlt (fun e => ?_)) (pw_below_grown h.b row h.b.size hg (fun k e => ?_))
          · have := hr _ e.symm
            omega
          · have := hr _ e
            omega
        refine wpIn_rangeFunc_ownH rfl (by omega) (gf := 103) (lb := #[.pointer (some ⟨wr.heap.size, 0, none⟩)]) rfl trivial (enters_of Tryd.func103 (by kernel_rfl) rfl)
          (members_stops _ w _ l A c wr.heap.size HC.out hb0 q3) (fun h k => h.trans k) (fun W l o o' hl ho hc _ => KpL.putObj hb0.size W l o o' hl ho hc) (Below.refl _ _) (fun _ => rfl)
          (fun pre W => (E63 w W l A c false ∧ ∀ p ∈ mems pre, mbF k p = some true) ∧ W0.heap.size ≤ W.heap.size) (fun cd pre W => cd = .ret ∧ E63 w W l A c false ∧ r = false)
          (fun pre W W' row h hg hr => ⟨⟨own _ W W' row h.1.1 hg (fun r e => (hr r e).1), h.1.2⟩, Nat.le_trans h.2 hg.size⟩) (fun cd pre W W' row h hg hr => ⟨h.1, own _ W W' row h.2.1 hg (fun r e => (hr r e).1), h.2.2⟩) ⟨⟨hE0, fun p hp => by cases hp⟩, Nat.le_refl _⟩
          (fun p a' W => ∃ b6, a' = { tmps := #[.agg #[.slice A l.length c], .pointer (some ⟨w.heap.size, 0, none⟩), .pointer (some ⟨w.heap.size + 1, 0, none⟩), undef, u4, undef, .pointer (some ⟨b6, 0, none⟩), .pointer (some ⟨w.heap.size, 0, none⟩), .slice A l.length c, .int .i64 l.length, .bool false, .pointer (some ⟨w.heap.size, 0, none⟩), .slice A l.length c, .int .i64 l.length, .int .i64 i, .bool false, u16, u17, u18, u19, u20, u21, u22, u23, u24, u25, u26, u27, u28, .agg #[.slice A l.length c], .func (.func 103) #[] #[.pointer (some ⟨wr.heap.size, 0, none⟩)], .string p.1.1, p.val, undef, undef, undef], defers := [] } ∧ W0.heap.size ≤ b6 ∧ W.heap[b6]? = some (mbBox p.1.2.1 p.1.2.2.1 p.1.2.2.2.1 p.1.2.2.2.2.1 p.1.2.2.2.2.2))
          ?hAx ?assign ?body ?done ?stop
        case hAx =>
          rintro p a' _ W W' row ⟨b6, e, hb, h6⟩ hg hr
          refine ⟨b6, e, hb, (hg.block _ (Array.getElem?_eq_some_iff.1 h6).1 (fun e' => ?_)).trans h6⟩
          obtain ⟨_, o, ho, hc⟩ := hr _ e'.symm
          rw [h6] at ho
          cases ho
          cases hc
        case assign =>
          rintro l' pre ⟨⟨nm, m, A2, c2, A6, c6⟩, hp⟩ W K ⟨h, hs⟩ hK
          simp only [MemV.val] at hK ⊢
          have HK := Aside0.mk hK
          have H2 := Aside0.mk h
          clear hK h
          gi_wp2
          refine HK.out _ _ ⟨by simp, fun k o _ hk ho => ?_⟩ ?_ ⟨⟨?_, H2.out.2⟩, Nat.le_trans hs (below_alloc (Below.refl W.heap.size W) _).size⟩ ⟨W.heap.size, rfl, hs, blk_new W _⟩
          · rw [Go.heap_alloc_old (h := (Array.getElem?_eq_some_iff.1 hk).1)]
            exact hk
          · exact KpL.of_below (below_alloc (Below.refl _ _) _) H2.out.1.b.size
          · exact H2.out.1.below (below_alloc (Below.refl _ _) _)
        case body =>
          rintro l' pre ⟨⟨nm, m, A2, c2, A6, c6⟩, hp⟩ a' W _ _ ⟨h, hs⟩ ⟨b6, rfl, hb6, h6⟩ hlt
          simp only at h6
          obtain ⟨hg2, hl2, hg6, hl6, hmem⟩ := hp
          obtain ⟨b, hb⟩ := formM_some (formS_yes H.out H64.out HALL.out) hmem
          have HB := Aside0.mk hb
          have z0 : W.cell? ⟨b6, 0, none⟩ = some (.string m.f0) := (blk_cell h6 0).trans rfl
          have z1 : W.cell? ⟨b6, 1, none⟩ = some (.int .i64 m.f1) := (blk_cell h6 1).trans rfl
          have z2 : W.cell? ⟨b6, 2, none⟩ = some (.slice A2 m.f2.length c2) := (blk_cell h6 2).trans rfl
          have z3 : W.cell? ⟨b6, 3, none⟩ = some (.int .i64 m.f3.f0) := (blk_cell h6 3).trans rfl
          have z4 : W.cell? ⟨b6, 4, none⟩ = some (.string m.f3.f1) := (blk_cell h6 4).trans rfl
          have z5 : W.cell? ⟨b6, 5, none⟩ = some (.string m.f3.f2) := (blk_cell h6 5).trans rfl
          have z6 : W.cell? ⟨b6, 6, none⟩ = some (.slice A6 m.f3.f3.length c6) := (blk_cell h6 6).trans rfl
          have HI := Aside0.mk h
          have HR := Aside0.mk (And.intro hg2 (And.intro hl2 (And.intro hg6 hl6)))
          have HSZ := Aside0.mk hs
          have HM := Aside0.mk hmem
          clear h hs hb h6 hb6 hlt
          gi_wp2_with fail
          refine ⟨trivial, (callsIn_wide.2 (schema_member.calls k m.f0 m.f1 A2 c2 m.f2 m.f3.f0 m.f3.f1 m.f3.f2 A6 c6 m.f3.f3 b _ (HL.out.below HI.out.1.b) (Kd.C_below HR.out.1 HI.out.1.b) HR.out.2.1 (Kd.C_below HR.out.2.2.1 HI.out.1.b) HR.out.2.2.2 HB.out)).mono ?_⟩
          rintro e W2 ⟨rfl, hb2⟩
          have HE2 := Aside0.mk (HI.out.1.below hb2)
          have HS2 := Aside0.mk (Nat.le_trans HSZ.out hb2.size)
          have HKp := Aside0.mk (show KpL w.heap.size W0.heap.size W W2 from .of_below hb2 HI.out.1.b.size)
          have HKf := Aside0.mk (show KeepsFrom W0.heap.size W W2 from ⟨hb2.size, fun k o _ hk _ => (hb2.block k (Array.getElem?_eq_some_iff.1 hk).1).trans hk⟩)
          clear z0 z1 z2 z3 z4 z5 z6 hb2
          have zr : W2.cell? ⟨w.heap.size + 1, 0, none⟩ = some (.bool false) := (blk_cell HE2.out.e1 0).trans rfl
          have zf := blk_frozen HE2.out.e1 0
          cases b with
          | true =>
            gi_wp2
            refine ⟨HKf.out, HKp.out, ⟨HE2.out, fun p hp => ?_⟩, HS2.out⟩
            rw [mems_append] at hp
            rcases List.mem_append.1 hp with hp | hp
            · exact HI.out.2 p hp
            · obtain rfl := List.mem_singleton.1 (show p ∈ [(nm, m)] from hp)
              exact HB.out
          | false =>
            gi_wp2
            exact ⟨HKf.out.trans ((KeepsOthers.setCell _ _ _).from _), rfl, HE2.out.put false, formM_no (formS_yes H.out H64.out HALL.out) hmem HB.out⟩
        case done =>
          rintro D ys W hD hys ⟨h, hs⟩ hK
          have zr : W.cell? ⟨w.heap.size + 1, 0, none⟩ = some (.bool false) := (blk_cell h.1.e1 0).trans rfl
          have zf := blk_frozen h.1.e1 0
          rw [hys] at h
          have HR := Aside0.mk (formM_yes (formS_yes H.out H64.out HALL.out) h.2)
          have HI := Aside0.mk h.1
          have HK := Aside0.mk hK
          have HD := Aside0.mk (show w.heap.size + 2 ≤ D by omega)
          clear h hs hK hD hys
          gi_wp2
          have hd := HD.out
          exact end63b (HI.out.put true) ((Below.heap_setCell _ _ _ _ (by show D ≠ w.heap.size + 1; omega)).trans HK.out) HD.out rfl HR.out
        case stop =>
          rintro D cd pre W hD _ ⟨rfl, h, hr⟩ hK
          have HR := Aside0.mk hr
          have HI := Aside0.mk h
          have HK := Aside0.mk hK
          have HD := Aside0.mk (show w.heap.size + 2 ≤ D by omega)
          clear h hK hD hr
          gi_wp2
          exact end63b HI.out HK.out HD.out rfl HR.out
  · have q2 : decide ((l.length : Int) > 64) = true := decide_eq_true (by omega)
    have hr : r = false := by have := H.out; rw [formS, if_neg h64] at this; exact (Option.some.inj this).symm
    have HR := Aside0.mk hr
    clear h64 hr
    gi_wp2
    exact end63a HE.out rfl HR.out
end Go.Proofs.YtigghbfcflnoeaaDoor.Y
end
section
namespace Go.Proofs.YtigghbfcflnoeaaDoor.Y
open Go.RowKit Go.Proofs.YtigghbfcflnoeaaDoorW.PrintWords Go.Proofs.YtigghbfcflnoeaaDoorW.PrintLast Go.Proofs.YtigghbfcflnoeaaDoorW.PrintMore
attribute [local go_sem] max2_int min2_int max_two min_two max_three min_three max_four min_four
set_option linter.unusedVariables false
set_option linter.unusedSimpArgs false
def schema_Form.f (k : Nat) (l0_0 : List (S81)) : Option (Bool) := formS k l0_0
theorem schema_Form.mono : ∀ a0 k, LeO (schema_Form.f k a0) (schema_Form.f (k + 1) a0) := fun a0 k => formS_mono k a0
theorem schema_Form.calls (k : Nat) (A0_0 : Option Addr) (c0_0 : Nat) (l0_0 : List (S81)) (r : Bool) (w : World) (hL : Laid w) (hr0_0 : Kd.C k81 w A0_0 l0_0.length l0_0) (_hc0_0 : l0_0.length ≤ c0_0) (h : schema_Form.f k l0_0 = some r) :
    Calls Tryd.prog 63 #[.agg #[.slice A0_0 l0_0.length c0_0]] w fun e w' => e = .returned (.bool r) ∧ Below w.heap.size w w' :=
  form_at11 k l0_0 A0_0 c0_0 r w hL hr0_0 h
end Go.Proofs.YtigghbfcflnoeaaDoor.Y
end
section
namespace Go.Proofs.YtigghbfcflnoeaaDoor.Y
open Go.RowKit Go.Proofs.YtigghbfcflnoeaaDoorW.PrintWords Go.Proofs.YtigghbfcflnoeaaDoorW.PrintLast Go.Proofs.YtigghbfcflnoeaaDoorW.PrintMore
attribute [local go_sem] max2_int min2_int max_two min_two max_three min_three max_four min_four
set_option linter.unusedVariables false
set_option linter.unusedSimpArgs false
def awk11t.f (k : Nat) (a0_0 : ByteArray) (a0_1 : Int) (l0_2 : List (S44)) (a0_3 : Int) (a0_4 : ByteArray) (a0_5 : ByteArray) (l0_6 : List (S24)) (l1_0 : List (S81)) (l2_0 : List (S81)) : Option (Bool) := (schema_Member.f l1_0 (⟨#[100]⟩ : ByteArray) (⟨#[97]⟩ : ByteArray)).bind fun bt104 => ((schema_Member.f l1_0 (⟨#[100]⟩ : ByteArray) (⟨#[98]⟩ : ByteArray)).bind fun bt117 => ((schema_Count.f l1_0).bind fun bt130 => ((schema_Form.f k l1_0).bind fun t133 => (if t133 = true then ((schema_Form.f k l2_0).bind fun t134 => (if t134 = true then (some false) else (if bt104.2.2.2.2.2.2.2 = true then ((schema_SameMember.f k bt104.1 bt104.2.1 bt104.2.2.1 bt104.2.2.2.1 bt104.2.2.2.2.1 bt104.2.2.2.2.2.1 bt104.2.2.2.2.2.2.1 a0_0 a0_1 l0_2 a0_3 a0_4 a0_5 l0_6).bind fun t135 => (if t135 = true then (if bt117.2.2.2.2.2.2.2 = true then (some false) else (if bt130.1 = 1 then (if bt130.2.1 = 1 then (if bt130.2.2 = 0 then ((schema_Clone.f k l1_0).bind fun t136 => ((schema_Same.f k t136 l1_0).bind fun t139 => (if t139 = true then ((schema_Members.f l1_0).bind fun t140 => (if t140 = true then ((schema_Allows.f k a0_0 a0_1 l0_2 a0_3 a0_4 a0_5 l0_6 (⟨#[117, 115, 101, 114]⟩ : ByteArray) (⟨#[]⟩ : ByteArray)).bind fun t141 => (some t141)) else (some false))) else (some false)))) else (some false)) else (some false)) else (some false))) else (some false))) else (some false)))) else (some false)))))
theorem awk11t.mono : ∀ a0 a1 a2 a3 a4 a5 a6 a7 a8 k, LeO (awk11t.f k a0 a1 a2 a3 a4 a5 a6 a7 a8) (awk11t.f (k + 1) a0 a1 a2 a3 a4 a5 a6 a7 a8) := by
  intro a0 a1 a2 a3 a4 a5 a6 a7 a8 k
  unfold awk11t.f
  repeat' first
      | (with_reducible exact schema_Allows.mono _ _ _ _ _ _ _ _ _ _)
      | (with_reducible exact schema_Clone.mono _ _)
      | (with_reducible exact schema_Form.mono _ _)
      | (with_reducible exact schema_Same.mono _ _ _)
      | (with_reducible exact schema_SameMember.mono _ _ _ _ _ _ _ _ _ _ _ _ _ _ _)
      | (with_reducible exact LeO.refl _)
      | (with_reducible exact LeO.none _)
      | (with_reducible refine LeO.ite ?_ ?_)
      | (with_reducible refine LeO.bind ?_ (fun _ => ?_))
      | exact schema_Allows.mono _ _ _ _ _ _ _ _ _ _
      | exact schema_Clone.mono _ _
      | exact schema_Form.mono _ _
      | exact schema_Same.mono _ _ _
      | exact schema_SameMember.mono _ _ _ _ _ _ _ _ _ _ _ _ _ _ _
      | exact LeO.none _
      | refine LeO.ite ?_ ?_
      | refine LeO.bind ?_ (fun _ => ?_)
def awk11t.T7 : Bool × List (List Nat × List Nat) := (true, [([], []), ([0], [0]), ([1, 1], [1]), ([2], [2]), ([3, 2, 2], [2, 3]), ([4, 2], [2, 4]), ([2, 5], [2, 5]), ([6, 4], [6]), ([7], [7]), ([7, 8], [7, 8]), ([9, 7], [9]), ([10], [10]), ([10], [10]), ([11, 12, 10, 10], [10, 11, 12]), ([10, 13], [10, 13]), ([14, 13], [14]), ([15], [15]), ([16, 15], [15, 16]), ([15, 17], [15, 17]), ([18, 15], [18]), ([19], [19]), ([20, 19], [19, 20]), ([19, 21], [19, 21]), ([22, 19], [22]), ([23], [23]), ([24, 23], [23, 24]), ([23, 25], [23, 25]), ([26, 23], [26]), ([27], [27]), ([28, 27], [27, 28]), ([27, 29], [27, 29]), ([30, 27], [30]), ([31], [31]), ([32, 31, 31], [31, 32]), ([31], [31]), ([33, 34, 33, 31], [31, 33, 34]), ([31, 35], [31, 35]), ([36, 35], [36]), ([37], [37]), ([38, 37, 37], [37, 38]), ([39, 37], [37, 39]), ([37, 40], [37, 40]), ([41, 39], [41]), ([42], [42]), ([42], [42]), ([43, 44, 42, 42], [42, 43, 44]), ([42, 45], [42, 45]), ([46, 45, 0, 1, 2, 3, 4, 5, 6, 7, 8, 9, 10, 11, 12, 13, 14, 15, 16, 17, 18, 19, 20, 21, 22, 23, 24, 25, 26, 27, 28, 29, 30, 31, 32, 33, 34, 35, 36, 37, 38, 39, 40, 41, 42, 43, 44, 45, 46], [46])])
def awk11t.B7 : List Nat := [0, 1, 3, 7, 15, 31, 63, 127, 255, 511, 1023, 2047, 2047, 8191, 16383, 32767, 65535, 131071, 262143, 524287, 1048575, 2097151, 4194303, 8388607, 16777215, 33554431, 67108863, 134217727, 268435455, 536870911, 1073741823, 2147483647, 4294967295, 8589934591, 4294967295, 34359738367, 68719476735, 137438953471, 274877906943, 549755813887, 1099511627775, 2199023255551, 4398046511103, 8796093022207, 8796093022207, 35184372088831, 70368744177663, 140737488355327]
theorem awk11t.tab7 : rtab .any (opsOf Tryd.f32 7) = awk11t.T7 := by kernel_rfl
theorem awk11t.bits7 : waitsOk awk11t.T7.2 awk11t.B7 = true := by kernel_rfl
theorem ne_nil103 (p : Option Addr) (w' : World) : Sem.run Tryd.prog (binOp BinOp.neq 90 (Value.func (Fn.func 103) #[] #[Value.pointer p]) Value.nilFunc) w' = .ok (.bool true) w' := by kernel_rfl
attribute [local go_sem] ne_nil103
set_option maxHeartbeats 8000000 in
set_option maxRecDepth 100000 in
theorem awake11.calls (k : Nat) (w : World) (hL : Laid w) (h : awk11t.f k ⟨#[97]⟩ 1 [tyU] 0 eB eB [] [dA] [dB] = some true) :
    Calls Tryd.prog 32 #[] w fun e w' => e = .returned (.bool true) ∧ Below w.heap.size w w' := by
  have hu59 := Tryd.underlying59
  have hu42 := Tryd.underlying42
  have hu44 := Tryd.underlying44
  have HLW := Aside0.mk hL
  have HH := Aside0.mk h
  clear hL h
  go_enter Tryd.func32, Tryd.ntmps32
  go_upto_region 4 with (fail)
  (try simp only [Act.put, List.setIfInBounds_toArray, List.set_cons_zero, List.set_cons_succ])
  obtain ⟨wt, hwt⟩ : ∃ wt, ((((((((w.alloc (.cells #[.string ⟨#[117, 115, 101, 114]⟩, .string ⟨#[]⟩] 44)).alloc (.cells #[.string ⟨#[97]⟩, .int .i64 1, .slice (some ⟨w.heap.size, 0, none⟩) 1 1, .int .i64 0, .string ⟨#[]⟩, .string ⟨#[]⟩, .slice none 0 0] 42)).alloc (.cells #[.string ⟨#[97]⟩, .int .i64 1, .slice (some ⟨w.heap.size, 0, none⟩) 1 1, .int .i64 0, .string ⟨#[]⟩, .string ⟨#[]⟩, .slice none 0 0] 42)).alloc (.cells #[.string ⟨#[100]⟩, .slice (some ⟨w.heap.size + 1 + 1, 0, none⟩) 1 1] 81)).alloc (.cells #[.slice (some ⟨w.heap.size + 1 + 1 + 1, 0, none⟩) 1 1] 59)).alloc (.cells #[.string ⟨#[97]⟩, .int .i64 1, .slice none 0 0, .int .i64 0, .string ⟨#[]⟩, .string ⟨#[]⟩, .slice none 0 0] 42)).alloc (.cells #[.string ⟨#[100]⟩, .slice (some ⟨w.heap.size + 1 + 1 + 1 + 1 + 1, 0, none⟩) 1 1] 81)).alloc (.cells #[.slice (some ⟨w.heap.size + 1 + 1 + 1 + 1 + 1 + 1, 0, none⟩) 1 1] 59)) = wt := ⟨_, rfl⟩
  obtain ⟨b0, b1, b2, b3, b4, b5, b6, b7, hbw, hsz⟩ := al8 w _ _ _ _ _ _ _ _ wt hwt
  rw [hwt]
  clear hwt
  have HBW := Aside0.mk hbw
  have HL := Aside0.mk (HLW.out.below hbw)
  obtain ⟨PS, hPS⟩ : ∃ PS : Nat → Prop, PS = fun k => k = w.heap.size ∨ k = w.heap.size + 2 ∨ k = w.heap.size + 3 := ⟨_, rfl⟩
  have HPF := Aside0.mk (show Kd.F k81 wt PS (some ⟨w.heap.size + 3, 0, none⟩) 1 [dA] from fun W' hW => k81A W' ((hW _ (by rw [hPS]; exact .inl rfl) (by omega)).trans b0) ((hW _ (by rw [hPS]; exact .inr (.inl rfl)) (by omega)).trans b2) ((hW _ (by rw [hPS]; exact .inr (.inr rfl)) (by omega)).trans b3))
  have HPL := Aside0.mk (show ∀ k, PS k → k < wt.heap.size from fun k hk => by rw [hPS] at hk; rcases hk with h | h | h <;> omega)
  have HP101 := Aside0.mk (show ∀ k, PS k → k ≠ w.heap.size + 7 from fun k hk => by rw [hPS] at hk; rcases hk with h | h | h <;> omega)
  have HP102 := Aside0.mk (show ∀ k, PS k → k ≠ w.heap.size + 4 from fun k hk => by rw [hPS] at hk; rcases hk with h | h | h <;> omega)
  have HP103 := Aside0.mk (show ∀ k, PS k → k ≠ w.heap.size + 1 from fun k hk => by rw [hPS] at hk; rcases hk with h | h | h <;> omega)
  clear hPS
  have HR0_2 := Aside0.mk (show Kd.C k44 wt (some ⟨w.heap.size, 0, none⟩) 1 [tyU] from C_one b0 (k44_mk wt tyU))
  have HR1_0 := Aside0.mk (Kd.F_now HPF.out)
  have HR2_0 := Aside0.mk (k81B wt b5 b6)
  have HR0_6 := Aside0.mk (show Kd.C k24 wt none ([] : List S24).length [] from ⟨rfl, by decide, fun h => absurd h (by simp)⟩)
  have HB := Aside0.mk (Below.refl wt.heap.size wt)
  have BK101 := Aside0.mk b7
  have BK102 := Aside0.mk b4
  have BK103 := Aside0.mk b1
  have NB101_102 := Aside0.mk (show w.heap.size + 7 ≠ w.heap.size + 4 by omega)
  have NB101_103 := Aside0.mk (show w.heap.size + 7 ≠ w.heap.size + 1 by omega)
  have NB102_101 := Aside0.mk (show w.heap.size + 4 ≠ w.heap.size + 7 by omega)
  have NB102_103 := Aside0.mk (show w.heap.size + 4 ≠ w.heap.size + 1 by omega)
  have NB103_101 := Aside0.mk (show w.heap.size + 1 ≠ w.heap.size + 7 by omega)
  have NB103_102 := Aside0.mk (show w.heap.size + 1 ≠ w.heap.size + 4 by omega)
  clear b0 b1 b2 b3 b4 b5 b6 b7 hbw hsz HLW
  obtain ⟨a0_0, ea0⟩ : ∃ x : ByteArray, (⟨#[97]⟩ : ByteArray) = x := ⟨_, rfl⟩
  obtain ⟨l0_2, el2⟩ : ∃ x : List S44, x = [tyU] := ⟨_, rfl⟩
  obtain ⟨l0_6, el6⟩ : ∃ x : List S24, x = [] := ⟨_, rfl⟩
  obtain ⟨l1_0, el1⟩ : ∃ x : List S81, x = [dA] := ⟨_, rfl⟩
  obtain ⟨l2_0, el20⟩ : ∃ x : List S81, x = [dB] := ⟨_, rfl⟩
  obtain ⟨a0_1, ea1⟩ : ∃ x : Int, x = 1 := ⟨_, rfl⟩
  obtain ⟨a0_3, ea3⟩ : ∃ x : Int, x = 0 := ⟨_, rfl⟩
  obtain ⟨a0_4, ea4⟩ : ∃ x : ByteArray, x = eB := ⟨_, rfl⟩
  obtain ⟨a0_5, ea5⟩ : ∃ x : ByteArray, x = eB := ⟨_, rfl⟩
  obtain ⟨A0_2, eA2⟩ : ∃ x : Option Addr, x = some ⟨w.heap.size, 0, none⟩ := ⟨_, rfl⟩
  obtain ⟨A0_6, eA6⟩ : ∃ x : Option Addr, x = none := ⟨_, rfl⟩
  obtain ⟨A1_0, eA1⟩ : ∃ x : Option Addr, x = some ⟨w.heap.size + 3, 0, none⟩ := ⟨_, rfl⟩
  obtain ⟨A2_0, eA20⟩ : ∃ x : Option Addr, x = some ⟨w.heap.size + 6, 0, none⟩ := ⟨_, rfl⟩
  obtain ⟨c0_2, ec2⟩ : ∃ x : Nat, x = 1 := ⟨_, rfl⟩
  obtain ⟨c0_6, ec6⟩ : ∃ x : Nat, x = 0 := ⟨_, rfl⟩
  obtain ⟨c1_0, ec1⟩ : ∃ x : Nat, x = 1 := ⟨_, rfl⟩
  obtain ⟨c2_0, ec20⟩ : ∃ x : Nat, x = 1 := ⟨_, rfl⟩
  have H : awk11t.f k a0_0 a0_1 l0_2 a0_3 a0_4 a0_5 l0_6 l1_0 l2_0 = some true := by subst ea0 ea1 ea3 ea4 ea5 el2 el6 el1 el20; exact HH.out
  replace HR0_2 : Aside0 (Kd.C k44 wt A0_2 l0_2.length l0_2) := by subst eA2 el2; exact HR0_2
  replace HR0_6 : Aside0 (Kd.C k24 wt A0_6 l0_6.length l0_6) := by subst eA6 el6; exact HR0_6
  replace HR1_0 : Aside0 (Kd.C k81 wt A1_0 l1_0.length l1_0) := by subst eA1 el1; exact HR1_0
  replace HPF : Aside0 (Kd.F k81 wt PS A1_0 l1_0.length l1_0) := by subst eA1 el1; exact HPF
  replace HR2_0 : Aside0 (Kd.C k81 wt A2_0 l2_0.length l2_0) := by subst eA20 el20; exact HR2_0
  have HC0_2 : Aside0 (l0_2.length ≤ c0_2) := by subst ec2 el2; exact ⟨Nat.le_refl 1⟩
  have HC0_6 : Aside0 (l0_6.length ≤ c0_6) := by subst ec6 el6; exact ⟨Nat.le_refl 0⟩
  have HC1_0 : Aside0 (l1_0.length ≤ c1_0) := by subst ec1 el1; exact ⟨Nat.le_refl 1⟩
  have HC2_0 : Aside0 (l2_0.length ≤ c2_0) := by subst ec20 el20; exact ⟨Nat.le_refl 1⟩
  replace BK101 : Aside0 (wt.heap[w.heap.size + 7]? = some (.cells #[.slice A2_0 l2_0.length c2_0] 59 (0, 0))) := by subst eA20 ec20 el20; exact BK101
  replace BK102 : Aside0 (wt.heap[w.heap.size + 4]? = some (.cells #[.slice A1_0 l1_0.length c1_0] 59 (0, 0))) := by subst eA1 ec1 el1; exact BK102
  replace BK103 : Aside0 (wt.heap[w.heap.size + 1]? = some (.cells #[.string a0_0, .int .i64 a0_1, .slice A0_2 l0_2.length c0_2, .int .i64 a0_3, .string a0_4, .string a0_5, .slice A0_6 l0_6.length c0_6] 42 (0, 0))) := by subst ea0 ea1 ea3 ea4 ea5 eA2 ec2 el2 eA6 ec6 el6; exact BK103
  clear HH ea0 ea1 ea3 ea4 ea5 eA2 ec2 el2 eA6 ec6 el6 eA1 ec1 el1 eA20 ec20 el20
  have e7 : w.heap.size + 7 = w.heap.size + 1 + 1 + 1 + 1 + 1 + 1 + 1 := rfl
  have e4 : w.heap.size + 4 = w.heap.size + 1 + 1 + 1 + 1 := rfl
  rw [e7] at BK101 HP101 NB101_102 NB101_103 NB102_101 NB103_101
  rw [e4] at BK102 HP102 NB101_102 NB102_101 NB102_103 NB103_102
  clear e7 e4
  generalize w.heap.size + 1 + 1 + 1 + 1 + 1 + 1 + 1 = gb101 at BK101 HP101 NB101_102 NB101_103 NB102_101 NB103_101 ⊢
  generalize w.heap.size + 1 + 1 + 1 + 1 = gb102 at BK102 HP102 NB101_102 NB102_101 NB102_103 NB103_102 ⊢
  generalize w.heap.size + 1 = gb103 at BK103 HP103 NB101_103 NB102_103 NB103_101 NB103_102 ⊢
  have hcz00 : wt.cell? ⟨gb101, 0, none⟩ = some (.slice A2_0 l2_0.length c2_0) := (blk_cell BK101.out 0).trans rfl
  have hcz10 : wt.cell? ⟨gb102, 0, none⟩ = some (.slice A1_0 l1_0.length c1_0) := (blk_cell BK102.out 0).trans rfl
  have hcz20 : wt.cell? ⟨gb103, 0, none⟩ = some (.string a0_0) := (blk_cell BK103.out 0).trans rfl
  have hcz21 : wt.cell? ⟨gb103, 1, none⟩ = some (.int .i64 a0_1) := (blk_cell BK103.out 1).trans rfl
  have hcz22 : wt.cell? ⟨gb103, 2, none⟩ = some (.slice A0_2 l0_2.length c0_2) := (blk_cell BK103.out 2).trans rfl
  have hcz23 : wt.cell? ⟨gb103, 3, none⟩ = some (.int .i64 a0_3) := (blk_cell BK103.out 3).trans rfl
  have hcz24 : wt.cell? ⟨gb103, 4, none⟩ = some (.string a0_4) := (blk_cell BK103.out 4).trans rfl
  have hcz25 : wt.cell? ⟨gb103, 5, none⟩ = some (.string a0_5) := (blk_cell BK103.out 5).trans rfl
  have hcz26 : wt.cell? ⟨gb103, 6, none⟩ = some (.slice A0_6 l0_6.length c0_6) := (blk_cell BK103.out 6).trans rfl
  replace H : ((schema_Member.f l1_0 (⟨#[100]⟩ : ByteArray) (⟨#[97]⟩ : ByteArray)).bind fun bt104 => ((schema_Member.f l1_0 (⟨#[100]⟩ : ByteArray) (⟨#[98]⟩ : ByteArray)).bind fun bt117 => ((schema_Count.f l1_0).bind fun bt130 => ((schema_Form.f k l1_0).bind fun t133 => (if t133 = true then ((schema_Form.f k l2_0).bind fun t134 => (if t134 = true then (some false) else (if bt104.2.2.2.2.2.2.2 = true then ((schema_SameMember.f k bt104.1 bt104.2.1 bt104.2.2.1 bt104.2.2.2.1 bt104.2.2.2.2.1 bt104.2.2.2.2.2.1 bt104.2.2.2.2.2.2.1 a0_0 a0_1 l0_2 a0_3 a0_4 a0_5 l0_6).bind fun t135 => (if t135 = true then (if bt117.2.2.2.2.2.2.2 = true then (some false) else (if bt130.1 = 1 then (if bt130.2.1 = 1 then (if bt130.2.2 = 0 then ((schema_Clone.f k l1_0).bind fun t136 => ((schema_Same.f k t136 l1_0).bind fun t139 => (if t139 = true then ((schema_Members.f l1_0).bind fun t140 => (if t140 = true then ((schema_Allows.f k a0_0 a0_1 l0_2 a0_3 a0_4 a0_5 l0_6 (⟨#[117, 115, 101, 114]⟩ : ByteArray) (⟨#[]⟩ : ByteArray)).bind fun t141 => (some t141)) else (some false))) else (some false)))) else (some false)) else (some false)) else (some false))) else (some false))) else (some false)))) else (some false)))))) = some true := H
  replace H := Option.bind_eq_some_iff.mp H
  obtain ⟨⟨t104, t105, t106, t109, t110, t111, t112, t115⟩, A40, H⟩ := H
  replace H : ((schema_Member.f l1_0 (⟨#[100]⟩ : ByteArray) (⟨#[98]⟩ : ByteArray)).bind fun bt117 => ((schema_Count.f l1_0).bind fun bt130 => ((schema_Form.f k l1_0).bind fun t133 => (if t133 = true then ((schema_Form.f k l2_0).bind fun t134 => (if t134 = true then (some false) else (if t115 = true then ((schema_SameMember.f k t104 t105 t106 t109 t110 t111 t112 a0_0 a0_1 l0_2 a0_3 a0_4 a0_5 l0_6).bind fun t135 => (if t135 = true then (if bt117.2.2.2.2.2.2.2 = true then (some false) else (if bt130.1 = 1 then (if bt130.2.1 = 1 then (if bt130.2.2 = 0 then ((schema_Clone.f k l1_0).bind fun t136 => ((schema_Same.f k t136 l1_0).bind fun t139 => (if t139 = true then ((schema_Members.f l1_0).bind fun t140 => (if t140 = true then ((schema_Allows.f k a0_0 a0_1 l0_2 a0_3 a0_4 a0_5 l0_6 (⟨#[117, 115, 101, 114]⟩ : ByteArray) (⟨#[]⟩ : ByteArray)).bind fun t141 => (some t141)) else (some false))) else (some false)))) else (some false)) else (some false)) else (some false))) else (some false))) else (some false)))) else (some false))))) = some true := H
  have A4 := Aside0.mk A40
  clear A40
  replace H := Option.bind_eq_some_iff.mp H
  obtain ⟨⟨t117, t118, t119, t122, t123, t124, t125, t128⟩, A50, H⟩ := H
  replace H : ((schema_Count.f l1_0).bind fun bt130 => ((schema_Form.f k l1_0).bind fun t133 => (if t133 = true then ((schema_Form.f k l2_0).bind fun t134 => (if t134 = true then (some false) else (if t115 = true then ((schema_SameMember.f k t104 t105 t106 t109 t110 t111 t112 a0_0 a0_1 l0_2 a0_3 a0_4 a0_5 l0_6).bind fun t135 => (if t135 = true then (if t128 = true then (some false) else (if bt130.1 = 1 then (if bt130.2.1 = 1 then (if bt130.2.2 = 0 then ((schema_Clone.f k l1_0).bind fun t136 => ((schema_Same.f k t136 l1_0).bind fun t139 => (if t139 = true then ((schema_Members.f l1_0).bind fun t140 => (if t140 = true then ((schema_Allows.f k a0_0 a0_1 l0_2 a0_3 a0_4 a0_5 l0_6 (⟨#[117, 115, 101, 114]⟩ : ByteArray) (⟨#[]⟩ : ByteArray)).bind fun t141 => (some t141)) else (some false))) else (some false)))) else (some false)) else (some false)) else (some false))) else (some false))) else (some false)))) else (some false)))) = some true := H
  have A5 := Aside0.mk A50
  clear A50
  replace H := Option.bind_eq_some_iff.mp H
  obtain ⟨⟨t130, t131, t132⟩, A60, H⟩ := H
  replace H : ((schema_Form.f k l1_0).bind fun t133 => (if t133 = true then ((schema_Form.f k l2_0).bind fun t134 => (if t134 = true then (some false) else (if t115 = true then ((schema_SameMember.f k t104 t105 t106 t109 t110 t111 t112 a0_0 a0_1 l0_2 a0_3 a0_4 a0_5 l0_6).bind fun t135 => (if t135 = true then (if t128 = true then (some false) else (if t130 = 1 then (if t131 = 1 then (if t132 = 0 then ((schema_Clone.f k l1_0).bind fun t136 => ((schema_Same.f k t136 l1_0).bind fun t139 => (if t139 = true then ((schema_Members.f l1_0).bind fun t140 => (if t140 = true then ((schema_Allows.f k a0_0 a0_1 l0_2 a0_3 a0_4 a0_5 l0_6 (⟨#[117, 115, 101, 114]⟩ : ByteArray) (⟨#[]⟩ : ByteArray)).bind fun t141 => (some t141)) else (some false))) else (some false)))) else (some false)) else (some false)) else (some false))) else (some false))) else (some false)))) else (some false))) = some true := H
  have A6 := Aside0.mk A60
  clear A60
  replace H := Option.bind_eq_some_iff.mp H
  obtain ⟨t133, A70, H⟩ := H
  replace H : (if t133 = true then ((schema_Form.f k l2_0).bind fun t134 => (if t134 = true then (some false) else (if t115 = true then ((schema_SameMember.f k t104 t105 t106 t109 t110 t111 t112 a0_0 a0_1 l0_2 a0_3 a0_4 a0_5 l0_6).bind fun t135 => (if t135 = true then (if t128 = true then (some false) else (if t130 = 1 then (if t131 = 1 then (if t132 = 0 then ((schema_Clone.f k l1_0).bind fun t136 => ((schema_Same.f k t136 l1_0).bind fun t139 => (if t139 = true then ((schema_Members.f l1_0).bind fun t140 => (if t140 = true then ((schema_Allows.f k a0_0 a0_1 l0_2 a0_3 a0_4 a0_5 l0_6 (⟨#[117, 115, 101, 114]⟩ : ByteArray) (⟨#[]⟩ : ByteArray)).bind fun t141 => (some t141)) else (some false))) else (some false)))) else (some false)) else (some false)) else (some false))) else (some false))) else (some false)))) else (some false)) = some true := H
  have A7 := Aside0.mk A70
  clear A70
  by_cases c8 : t133 = true
  · subst c8
    have H1 : ((schema_Form.f k l2_0).bind fun t134 => (if t134 = true then (some false) else (if t115 = true then ((schema_SameMember.f k t104 t105 t106 t109 t110 t111 t112 a0_0 a0_1 l0_2 a0_3 a0_4 a0_5 l0_6).bind fun t135 => (if t135 = true then (if t128 = true then (some false) else (if t130 = 1 then (if t131 = 1 then (if t132 = 0 then ((schema_Clone.f k l1_0).bind fun t136 => ((schema_Same.f k t136 l1_0).bind fun t139 => (if t139 = true then ((schema_Members.f l1_0).bind fun t140 => (if t140 = true then ((schema_Allows.f k a0_0 a0_1 l0_2 a0_3 a0_4 a0_5 l0_6 (⟨#[117, 115, 101, 114]⟩ : ByteArray) (⟨#[]⟩ : ByteArray)).bind fun t141 => (some t141)) else (some false))) else (some false)))) else (some false)) else (some false)) else (some false))) else (some false))) else (some false)))) = some true := by rw [if_pos rfl] at H; exact H
    clear H
    have H := H1
    clear H1
    replace H := Option.bind_eq_some_iff.mp H
    obtain ⟨t134, A90, H⟩ := H
    replace H : (if t134 = true then (some false) else (if t115 = true then ((schema_SameMember.f k t104 t105 t106 t109 t110 t111 t112 a0_0 a0_1 l0_2 a0_3 a0_4 a0_5 l0_6).bind fun t135 => (if t135 = true then (if t128 = true then (some false) else (if t130 = 1 then (if t131 = 1 then (if t132 = 0 then ((schema_Clone.f k l1_0).bind fun t136 => ((schema_Same.f k t136 l1_0).bind fun t139 => (if t139 = true then ((schema_Members.f l1_0).bind fun t140 => (if t140 = true then ((schema_Allows.f k a0_0 a0_1 l0_2 a0_3 a0_4 a0_5 l0_6 (⟨#[117, 115, 101, 114]⟩ : ByteArray) (⟨#[]⟩ : ByteArray)).bind fun t141 => (some t141)) else (some false))) else (some false)))) else (some false)) else (some false)) else (some false))) else (some false))) else (some false))) = some true := H
    have A9 := Aside0.mk A90
    clear A90
    by_cases c10 : t134 = true
    · exact absurd c10 (ite_no H)
    · replace c10 := Bool.eq_false_iff.mpr c10
      subst c10
      have H1 : (if t115 = true then ((schema_SameMember.f k t104 t105 t106 t109 t110 t111 t112 a0_0 a0_1 l0_2 a0_3 a0_4 a0_5 l0_6).bind fun t135 => (if t135 = true then (if t128 = true then (some false) else (if t130 = 1 then (if t131 = 1 then (if t132 = 0 then ((schema_Clone.f k l1_0).bind fun t136 => ((schema_Same.f k t136 l1_0).bind fun t139 => (if t139 = true then ((schema_Members.f l1_0).bind fun t140 => (if t140 = true then ((schema_Allows.f k a0_0 a0_1 l0_2 a0_3 a0_4 a0_5 l0_6 (⟨#[117, 115, 101, 114]⟩ : ByteArray) (⟨#[]⟩ : ByteArray)).bind fun t141 => (some t141)) else (some false))) else (some false)))) else (some false)) else (some false)) else (some false))) else (some false))) else (some false)) = some true := by rw [if_neg (show ¬ (false = true) by decide)] at H; exact H
      clear H
      have H := H1
      clear H1
      by_cases c41 : t115 = true
      · subst c41
        have H1 : ((schema_SameMember.f k t104 t105 t106 t109 t110 t111 t112 a0_0 a0_1 l0_2 a0_3 a0_4 a0_5 l0_6).bind fun t135 => (if t135 = true then (if t128 = true then (some false) else (if t130 = 1 then (if t131 = 1 then (if t132 = 0 then ((schema_Clone.f k l1_0).bind fun t136 => ((schema_Same.f k t136 l1_0).bind fun t139 => (if t139 = true then ((schema_Members.f l1_0).bind fun t140 => (if t140 = true then ((schema_Allows.f k a0_0 a0_1 l0_2 a0_3 a0_4 a0_5 l0_6 (⟨#[117, 115, 101, 114]⟩ : ByteArray) (⟨#[]⟩ : ByteArray)).bind fun t141 => (some t141)) else (some false))) else (some false)))) else (some false)) else (some false)) else (some false))) else (some false))) = some true := by rw [if_pos rfl] at H; exact H
        clear H
        have H := H1
        clear H1
        replace H := Option.bind_eq_some_iff.mp H
        obtain ⟨t135, A420, H⟩ := H
        replace H : (if t135 = true then (if t128 = true then (some false) else (if t130 = 1 then (if t131 = 1 then (if t132 = 0 then ((schema_Clone.f k l1_0).bind fun t136 => ((schema_Same.f k t136 l1_0).bind fun t139 => (if t139 = true then ((schema_Members.f l1_0).bind fun t140 => (if t140 = true then ((schema_Allows.f k a0_0 a0_1 l0_2 a0_3 a0_4 a0_5 l0_6 (⟨#[117, 115, 101, 114]⟩ : ByteArray) (⟨#[]⟩ : ByteArray)).bind fun t141 => (some t141)) else (some false))) else (some false)))) else (some false)) else (some false)) else (some false))) else (some false)) = some true := H
        have A42 := Aside0.mk A420
        clear A420
        by_cases c43 : t135 = true
        · subst c43
          have H1 : (if t128 = true then (some false) else (if t130 = 1 then (if t131 = 1 then (if t132 = 0 then ((schema_Clone.f k l1_0).bind fun t136 => ((schema_Same.f k t136 l1_0).bind fun t139 => (if t139 = true then ((schema_Members.f l1_0).bind fun t140 => (if t140 = true then ((schema_Allows.f k a0_0 a0_1 l0_2 a0_3 a0_4 a0_5 l0_6 (⟨#[117, 115, 101, 114]⟩ : ByteArray) (⟨#[]⟩ : ByteArray)).bind fun t141 => (some t141)) else (some false))) else (some false)))) else (some false)) else (some false)) else (some false))) = some true := by rw [if_pos rfl] at H; exact H
          clear H
          have H := H1
          clear H1
          by_cases c44 : t128 = true
          · exact absurd c44 (ite_no H)
          · replace c44 := Bool.eq_false_iff.mpr c44
            subst c44
            have H1 : (if t130 = 1 then (if t131 = 1 then (if t132 = 0 then ((schema_Clone.f k l1_0).bind fun t136 => ((schema_Same.f k t136 l1_0).bind fun t139 => (if t139 = true then ((schema_Members.f l1_0).bind fun t140 => (if t140 = true then ((schema_Allows.f k a0_0 a0_1 l0_2 a0_3 a0_4 a0_5 l0_6 (⟨#[117, 115, 101, 114]⟩ : ByteArray) (⟨#[]⟩ : ByteArray)).bind fun t141 => (some t141)) else (some false))) else (some false)))) else (some false)) else (some false)) else (some false)) = some true := by rw [if_neg (show ¬ (false = true) by decide)] at H; exact H
            clear H
            have H := H1
            clear H1
            by_cases c76 : t130 = 1
            · rw [if_pos c76] at H
              have c76b0 : (t130 == 1) = true := beq_iff_eq.mpr c76
              have c76b1 : (t130 != 1) = false := bne_eq_false_iff_eq.mpr c76
              clear c76
              by_cases c77 : t131 = 1
              · rw [if_pos c77] at H
                have c77b0 : (t131 == 1) = true := beq_iff_eq.mpr c77
                have c77b1 : (t131 != 1) = false := bne_eq_false_iff_eq.mpr c77
                clear c77
                by_cases c78 : t132 = 0
                · rw [if_pos c78] at H
                  have c78b0 : (t132 == 0) = true := beq_iff_eq.mpr c78
                  have c78b1 : (t132 != 0) = false := bne_eq_false_iff_eq.mpr c78
                  clear c78
                  replace H := Option.bind_eq_some_iff.mp H
                  obtain ⟨t136, A790, H⟩ := H
                  replace H : ((schema_Same.f k t136 l1_0).bind fun t139 => (if t139 = true then ((schema_Members.f l1_0).bind fun t140 => (if t140 = true then ((schema_Allows.f k a0_0 a0_1 l0_2 a0_3 a0_4 a0_5 l0_6 (⟨#[117, 115, 101, 114]⟩ : ByteArray) (⟨#[]⟩ : ByteArray)).bind fun t141 => (some t141)) else (some false))) else (some false))) = some true := H
                  have A79 := Aside0.mk A790
                  clear A790
                  replace H := Option.bind_eq_some_iff.mp H
                  obtain ⟨t139, A800, H⟩ := H
                  replace H : (if t139 = true then ((schema_Members.f l1_0).bind fun t140 => (if t140 = true then ((schema_Allows.f k a0_0 a0_1 l0_2 a0_3 a0_4 a0_5 l0_6 (⟨#[117, 115, 101, 114]⟩ : ByteArray) (⟨#[]⟩ : ByteArray)).bind fun t141 => (some t141)) else (some false))) else (some false)) = some true := H
                  have A80 := Aside0.mk A800
                  clear A800
                  by_cases c81 : t139 = true
                  · subst c81
                    have H1 : ((schema_Members.f l1_0).bind fun t140 => (if t140 = true then ((schema_Allows.f k a0_0 a0_1 l0_2 a0_3 a0_4 a0_5 l0_6 (⟨#[117, 115, 101, 114]⟩ : ByteArray) (⟨#[]⟩ : ByteArray)).bind fun t141 => (some t141)) else (some false))) = some true := by rw [if_pos rfl] at H; exact H
                    clear H
                    have H := H1
                    clear H1
                    replace H := Option.bind_eq_some_iff.mp H
                    obtain ⟨t140, A820, H⟩ := H
                    replace H : (if t140 = true then ((schema_Allows.f k a0_0 a0_1 l0_2 a0_3 a0_4 a0_5 l0_6 (⟨#[117, 115, 101, 114]⟩ : ByteArray) (⟨#[]⟩ : ByteArray)).bind fun t141 => (some t141)) else (some false)) = some true := H
                    have A82 := Aside0.mk A820
                    clear A820
                    by_cases c83 : t140 = true
                    · subst c83
                      have H1 : ((schema_Allows.f k a0_0 a0_1 l0_2 a0_3 a0_4 a0_5 l0_6 (⟨#[117, 115, 101, 114]⟩ : ByteArray) (⟨#[]⟩ : ByteArray)).bind fun t141 => (some t141)) = some true := by rw [if_pos rfl] at H; exact H
                      clear H
                      have H := H1
                      clear H1
                      replace H := Option.bind_eq_some_iff.mp H
                      obtain ⟨t141, A840, H⟩ := H
                      replace H : (some t141) = some true := H
                      have A84 := Aside0.mk A840
                      clear A840
                      have HRES := Aside0.mk (Option.some.inj H)
                      clear H
                      try go_wp2_with (first | ((with_reducible refine gate_dst (N := 3) rfl ?_); refine box_event ?hg (N := 3) ?hd (cs := #[.slice A2_0 l2_0.length c2_0]) (t := 59) ?hr ?_; (case hd => rfl); (case hg => rfl); (case hr => first | (go_simp; done) | (go_simp; rfl)); intro gb101 hg w85 hbox hb; have n0_ := Aside0.mk (below_step (by repeat (first | (with_reducible first | exact HB.out | apply below_alloc | apply pw_below_drewN | apply below_drew1) | exact HB.out)) hb); have n1_ := Aside0.mk (hbox); have n2_ := Aside0.mk ((by rw [hg]; exact (below_size (by repeat (first | (with_reducible first | exact HB.out | apply below_alloc | apply pw_below_drewN | apply below_drew1) | exact HB.out))) : wt.heap.size ≤ gb101)); have n3_ := Aside0.mk ((by rw [hg]; exact (below_size (by repeat (first | (with_reducible first | exact HB.out | apply below_alloc | apply pw_below_drewN | apply below_drew1) | exact HB.out))) : wt.heap.size ≤ gb101)); clear HB; have HB := n0_; have BK101 := n1_; have GW101 := n2_; have GE101 := n3_; clear n0_ n1_ n2_ n3_; clear hb hbox hg) | ((with_reducible refine gate_dst (N := 2) rfl ?_); refine box_event ?hg (N := 2) ?hd (cs := #[.slice A1_0 l1_0.length c1_0]) (t := 59) ?hr ?_; (case hd => rfl); (case hg => rfl); (case hr => first | (go_simp; done) | (go_simp; rfl)); intro gb102 hg w86 hbox hb; have n0_ := Aside0.mk (blk_below (g := gb101) (o := .cells #[.slice A2_0 l2_0.length c2_0] 59 (0, 0)) (by (with_reducible repeat (first | refine blk_drewN ?_ _ | refine blk_drew ?_ | refine blk_alloc ?_ _)); exact BK101.out) hb); have n1_ := Aside0.mk (below_step (by repeat (first | (with_reducible first | exact HB.out | apply below_alloc | apply pw_below_drewN | apply below_drew1 | refine below_set ?_ GE101.out) | exact HB.out)) hb); have n2_ := Aside0.mk (hbox); have n3_ := Aside0.mk ((by rw [hg]; exact (below_size (by repeat (first | (with_reducible first | exact HB.out | apply below_alloc | apply pw_below_drewN | apply below_drew1 | refine below_set ?_ GE101.out) | exact HB.out))) : wt.heap.size ≤ gb102)); have n4_ := Aside0.mk ((by rw [hg]; exact (below_size (by repeat (first | (with_reducible first | exact HB.out | apply below_alloc | apply pw_below_drewN | apply below_drew1 | refine below_set ?_ GE101.out) | exact HB.out))) : wt.heap.size ≤ gb102)); have n5_ := Aside0.mk ((by rw [hg]; exact Nat.ne_of_lt (blk_lt (g := gb101) (o := .cells #[.slice A2_0 l2_0.length c2_0] 59 (0, 0)) (by (with_reducible repeat (first | refine blk_drewN ?_ _ | refine blk_drew ?_ | refine blk_alloc ?_ _)); exact BK101.out)) : gb101 ≠ gb102)); have n6_ := Aside0.mk ((by rw [hg]; exact Nat.ne_of_gt (blk_lt (g := gb101) (o := .cells #[.slice A2_0 l2_0.length c2_0] 59 (0, 0)) (by (with_reducible repeat (first | refine blk_drewN ?_ _ | refine blk_drew ?_ | refine blk_alloc ?_ _)); exact BK101.out)) : gb102 ≠ gb101)); clear BK101; clear HB; have BK101 := n0_; have HB := n1_; have BK102 := n2_; have GW102 := n3_; have GE102 := n4_; have NB101_102 := n5_; have NB102_101 := n6_; clear n0_ n1_ n2_ n3_ n4_ n5_ n6_; clear hb hbox hg) | ((with_reducible refine gate_dst (N := 1) rfl ?_); refine box_event ?hg (N := 1) ?hd (cs := #[.string a0_0, .int .i64 a0_1, .slice A0_2 l0_2.length c0_2, .int .i64 a0_3, .string a0_4, .string a0_5, .slice A0_6 l0_6.length c0_6]) (t := 42) ?hr ?_; (case hd => rfl); (case hg => rfl); (case hr => first | (go_simp; done) | (go_simp; rfl)); intro gb103 hg w87 hbox hb; have n0_ := Aside0.mk (blk_below (g := gb101) (o := .cells #[.slice A2_0 l2_0.length c2_0] 59 (0, 0)) (by (with_reducible repeat (first | refine blk_drewN ?_ _ | refine blk_drew ?_ | refine blk_alloc ?_ _)); exact BK101.out) hb); have n1_ := Aside0.mk (blk_below (g := gb102) (o := .cells #[.slice A1_0 l1_0.length c1_0] 59 (0, 0)) (by (with_reducible repeat (first | refine blk_drewN ?_ _ | refine blk_drew ?_ | refine blk_alloc ?_ _)); exact BK102.out) hb); have n2_ := Aside0.mk (below_step (by repeat (first | (with_reducible first | exact HB.out | apply below_alloc | apply pw_below_drewN | apply below_drew1 | refine below_set ?_ GE101.out | refine below_set ?_ GE102.out) | exact HB.out)) hb); have n3_ := Aside0.mk (hbox); have n4_ := Aside0.mk ((by rw [hg]; exact (below_size (by repeat (first | (with_reducible first | exact HB.out | apply below_alloc | apply pw_below_drewN | apply below_drew1 | refine below_set ?_ GE101.out | refine below_set ?_ GE102.out) | exact HB.out))) : wt.heap.size ≤ gb103)); have n5_ := Aside0.mk ((by rw [hg]; exact (below_size (by repeat (first | (with_reducible first | exact HB.out | apply below_alloc | apply pw_below_drewN | apply below_drew1 | refine below_set ?_ GE101.out | refine below_set ?_ GE102.out) | exact HB.out))) : wt.heap.size ≤ gb103)); have n6_ := Aside0.mk ((by rw [hg]; exact Nat.ne_of_lt (blk_lt (g := gb101) (o := .cells #[.slice A2_0 l2_0.length c2_0] 59 (0, 0)) (by (with_reducible repeat (first | refine blk_drewN ?_ _ | refine blk_drew ?_ | refine blk_alloc ?_ _)); exact BK101.out)) : gb101 ≠ gb103)); have n7_ := Aside0.mk ((by rw [hg]; exact Nat.ne_of_gt (blk_lt (g := gb101) (o := .cells #[.slice A2_0 l2_0.length c2_0] 59 (0, 0)) (by (with_reducible repeat (first | refine blk_drewN ?_ _ | refine blk_drew ?_ | refine blk_alloc ?_ _)); exact BK101.out)) : gb103 ≠ gb101)); have n8_ := Aside0.mk ((by rw [hg]; exact Nat.ne_of_lt (blk_lt (g := gb102) (o := .cells #[.slice A1_0 l1_0.length c1_0] 59 (0, 0)) (by (with_reducible repeat (first | refine blk_drewN ?_ _ | refine blk_drew ?_ | refine blk_alloc ?_ _)); exact BK102.out)) : gb102 ≠ gb103)); have n9_ := Aside0.mk ((by rw [hg]; exact Nat.ne_of_gt (blk_lt (g := gb102) (o := .cells #[.slice A1_0 l1_0.length c1_0] 59 (0, 0)) (by (with_reducible repeat (first | refine blk_drewN ?_ _ | refine blk_drew ?_ | refine blk_alloc ?_ _)); exact BK102.out)) : gb103 ≠ gb102)); clear BK101; clear BK102; clear HB; have BK101 := n0_; have BK102 := n1_; have HB := n2_; have BK103 := n3_; have GW103 := n4_; have GE103 := n5_; have NB101_103 := n6_; have NB103_101 := n7_; have NB102_103 := n8_; have NB103_102 := n9_; clear n0_ n1_ n2_ n3_ n4_ n5_ n6_ n7_ n8_ n9_; clear hb hbox hg; have hnb88 := NB102_101.out; have hnc88 := NB101_102.out; have hnb89 := NB102_103.out; have hnc89 := NB103_102.out; have hcz90_0 : w87.cell? ⟨gb102, 0, none⟩ = some (.slice A1_0 l1_0.length c1_0) := (blk_cell BK102.out 0).trans rfl; have hfz90_0 := blk_frozen BK102.out 0) | ((with_reducible refine gate_callee (f := 61) rfl ?_); refine goesL_ (some 26) rfl rfl Tryd.func61 (by kernel_rfl) rfl #[.agg #[.slice A1_0 l1_0.length c1_0], .string (⟨#[100]⟩ : ByteArray), .string (⟨#[97]⟩ : ByteArray)] rfl (by (try simp only [List.map_toArray, List.map_cons, List.map_nil]); first | done | rfl | (simp only [List.length_drop, List.length_take]; rfl)) ?_; (with_reducible refine (schema_Member.calls PS _ _ l1_0 (⟨#[100]⟩ : ByteArray) (⟨#[97]⟩ : ByteArray) t104 t105 t106 t109 t110 t111 t112 true _ ?side1 A4.out).mono ?_); (case side1 => exact Kd.V_mk HC1_0.out (Kd.F_below HPF.out (by repeat (first | (with_reducible first | exact HB.out | apply below_alloc | apply pw_below_drewN | apply below_drew1 | refine below_set ?_ GE101.out | refine below_set ?_ GE102.out | refine below_set ?_ GE103.out) | exact HB.out)))); rintro e w91 ⟨v107, v113, rfl, ho0, ho1, hb⟩; refine ⟨_, rfl, ?_⟩; have n0_ := Aside0.mk (Kd.V_lower (Kd.V_mono (ok' := fun k_ => k_ ≠ gb101 ∧ k_ ≠ gb102 ∧ k_ ≠ gb103) ho0 (fun k_ hk_ => ⟨Or.elim hk_ (fun hs_ => HP101.out k_ hs_) (fun hn_ => (Kd.freshB (g := gb101) (o := .cells #[.slice A2_0 l2_0.length c2_0] 59 (0, 0)) (by (with_reducible repeat (first | refine blk_drewN ?_ _ | refine blk_drew ?_ | refine blk_alloc ?_ _)); exact BK101.out) k_ hn_)), Or.elim hk_ (fun hs_ => HP102.out k_ hs_) (fun hn_ => (Kd.freshB (g := gb102) (o := .cells #[.slice A1_0 l1_0.length c1_0] 59 (0, 0)) (by (with_reducible repeat (first | refine blk_drewN ?_ _ | refine blk_drew ?_ | refine blk_alloc ?_ _)); exact BK102.out) k_ hn_)), Or.elim hk_ (fun hs_ => HP103.out k_ hs_) (fun hn_ => (Kd.freshB (g := gb103) (o := .cells #[.string a0_0, .int .i64 a0_1, .slice A0_2 l0_2.length c0_2, .int .i64 a0_3, .string a0_4, .string a0_5, .slice A0_6 l0_6.length c0_6] 42 (0, 0)) (by (with_reducible repeat (first | refine blk_drewN ?_ _ | refine blk_drew ?_ | refine blk_alloc ?_ _)); exact BK103.out) k_ hn_))⟩)) (below_size (by repeat (first | (with_reducible first | exact HB.out | apply below_alloc | apply pw_below_drewN | apply below_drew1 | refine below_set ?_ GE101.out | refine below_set ?_ GE102.out | refine below_set ?_ GE103.out) | exact HB.out)))); have n1_ := Aside0.mk (Kd.V_lower (Kd.V_mono (ok' := fun k_ => k_ ≠ gb101 ∧ k_ ≠ gb102 ∧ k_ ≠ gb103) ho1 (fun k_ hk_ => ⟨Or.elim hk_ (fun hs_ => HP101.out k_ hs_) (fun hn_ => (Kd.freshB (g := gb101) (o := .cells #[.slice A2_0 l2_0.length c2_0] 59 (0, 0)) (by (with_reducible repeat (first | refine blk_drewN ?_ _ | refine blk_drew ?_ | refine blk_alloc ?_ _)); exact BK101.out) k_ hn_)), Or.elim hk_ (fun hs_ => HP102.out k_ hs_) (fun hn_ => (Kd.freshB (g := gb102) (o := .cells #[.slice A1_0 l1_0.length c1_0] 59 (0, 0)) (by (with_reducible repeat (first | refine blk_drewN ?_ _ | refine blk_drew ?_ | refine blk_alloc ?_ _)); exact BK102.out) k_ hn_)), Or.elim hk_ (fun hs_ => HP103.out k_ hs_) (fun hn_ => (Kd.freshB (g := gb103) (o := .cells #[.string a0_0, .int .i64 a0_1, .slice A0_2 l0_2.length c0_2, .int .i64 a0_3, .string a0_4, .string a0_5, .slice A0_6 l0_6.length c0_6] 42 (0, 0)) (by (with_reducible repeat (first | refine blk_drewN ?_ _ | refine blk_drew ?_ | refine blk_alloc ?_ _)); exact BK103.out) k_ hn_))⟩)) (below_size (by repeat (first | (with_reducible first | exact HB.out | apply below_alloc | apply pw_below_drewN | apply below_drew1 | refine below_set ?_ GE101.out | refine below_set ?_ GE102.out | refine below_set ?_ GE103.out) | exact HB.out)))); have n2_ := Aside0.mk (blk_below (g := gb101) (o := .cells #[.slice A2_0 l2_0.length c2_0] 59 (0, 0)) (by (with_reducible repeat (first | refine blk_drewN ?_ _ | refine blk_drew ?_ | refine blk_alloc ?_ _)); exact BK101.out) hb); have n3_ := Aside0.mk (blk_below (g := gb102) (o := .cells #[.slice A1_0 l1_0.length c1_0] 59 (0, 0)) (by (with_reducible repeat (first | refine blk_drewN ?_ _ | refine blk_drew ?_ | refine blk_alloc ?_ _)); exact BK102.out) hb); have n4_ := Aside0.mk (blk_below (g := gb103) (o := .cells #[.string a0_0, .int .i64 a0_1, .slice A0_2 l0_2.length c0_2, .int .i64 a0_3, .string a0_4, .string a0_5, .slice A0_6 l0_6.length c0_6] 42 (0, 0)) (by (with_reducible repeat (first | refine blk_drewN ?_ _ | refine blk_drew ?_ | refine blk_alloc ?_ _)); exact BK103.out) hb); have n5_ := Aside0.mk (below_step (by repeat (first | (with_reducible first | exact HB.out | apply below_alloc | apply pw_below_drewN | apply below_drew1 | refine below_set ?_ GE101.out | refine below_set ?_ GE102.out | refine below_set ?_ GE103.out) | exact HB.out)) hb); clear BK101; clear BK102; clear BK103; clear HB; have HO108 := n0_; have HO114 := n1_; have BK101 := n2_; have BK102 := n3_; have BK103 := n4_; have HB := n5_; clear n0_ n1_ n2_ n3_ n4_ n5_; (try clear hb); (try clear hb2); (try clear hk); (try clear hi); (try clear ho0); (try clear ho1)) | ((with_reducible refine gate_dst (N := 4) rfl ?_); refine box_event ?hg (N := 4) ?hd (cs := #[.string (⟨#[]⟩ : ByteArray), .int .i64 0, .slice none 0 0, .int .i64 0, .string (⟨#[]⟩ : ByteArray), .string (⟨#[]⟩ : ByteArray), .slice none 0 0]) (t := 42) ?hr ?_; (case hd => rfl); (case hg => rfl); (case hr => first | (go_simp; done) | (go_simp; rfl)); intro gb116 hg w92 hbox hb; have n0_ := Aside0.mk (Kd.V_below (Kd.V_elderB (by (with_reducible repeat (first | apply Kd.V_alloc | apply Kd.V_drewN | apply Kd.V_drew)); exact HO108.out) gb116 (Nat.le_of_eq hg.symm)) hb); have n1_ := Aside0.mk (Kd.V_below (Kd.V_elderB (by (with_reducible repeat (first | apply Kd.V_alloc | apply Kd.V_drewN | apply Kd.V_drew)); exact HO114.out) gb116 (Nat.le_of_eq hg.symm)) hb); have n2_ := Aside0.mk (blk_below (g := gb101) (o := .cells #[.slice A2_0 l2_0.length c2_0] 59 (0, 0)) (by (with_reducible repeat (first | refine blk_drewN ?_ _ | refine blk_drew ?_ | refine blk_alloc ?_ _)); exact BK101.out) hb); have n3_ := Aside0.mk (blk_below (g := gb102) (o := .cells #[.slice A1_0 l1_0.length c1_0] 59 (0, 0)) (by (with_reducible repeat (first | refine blk_drewN ?_ _ | refine blk_drew ?_ | refine blk_alloc ?_ _)); exact BK102.out) hb); have n4_ := Aside0.mk (blk_below (g := gb103) (o := .cells #[.string a0_0, .int .i64 a0_1, .slice A0_2 l0_2.length c0_2, .int .i64 a0_3, .string a0_4, .string a0_5, .slice A0_6 l0_6.length c0_6] 42 (0, 0)) (by (with_reducible repeat (first | refine blk_drewN ?_ _ | refine blk_drew ?_ | refine blk_alloc ?_ _)); exact BK103.out) hb); have n5_ := Aside0.mk (below_step (by repeat (first | (with_reducible first | exact HB.out | apply below_alloc | apply pw_below_drewN | apply below_drew1 | refine below_set ?_ GE101.out | refine below_set ?_ GE102.out | refine below_set ?_ GE103.out) | exact HB.out)) hb); have n6_ := Aside0.mk (hbox); have n7_ := Aside0.mk ((by rw [hg]; exact (below_size (by repeat (first | (with_reducible first | exact HB.out | apply below_alloc | apply pw_below_drewN | apply below_drew1 | refine below_set ?_ GE101.out | refine below_set ?_ GE102.out | refine below_set ?_ GE103.out) | exact HB.out))) : wt.heap.size ≤ gb116)); have n8_ := Aside0.mk ((by rw [hg]; exact (below_size (by repeat (first | (with_reducible first | exact HB.out | apply below_alloc | apply pw_below_drewN | apply below_drew1 | refine below_set ?_ GE101.out | refine below_set ?_ GE102.out | refine below_set ?_ GE103.out) | exact HB.out))) : wt.heap.size ≤ gb116)); have n9_ := Aside0.mk ((by rw [hg]; exact Nat.ne_of_lt (blk_lt (g := gb101) (o := .cells #[.slice A2_0 l2_0.length c2_0] 59 (0, 0)) (by (with_reducible repeat (first | refine blk_drewN ?_ _ | refine blk_drew ?_ | refine blk_alloc ?_ _)); exact BK101.out)) : gb101 ≠ gb116)); have n10_ := Aside0.mk ((by rw [hg]; exact Nat.ne_of_gt (blk_lt (g := gb101) (o := .cells #[.slice A2_0 l2_0.length c2_0] 59 (0, 0)) (by (with_reducible repeat (first | refine blk_drewN ?_ _ | refine blk_drew ?_ | refine blk_alloc ?_ _)); exact BK101.out)) : gb116 ≠ gb101)); have n11_ := Aside0.mk ((by rw [hg]; exact Nat.ne_of_lt (blk_lt (g := gb102) (o := .cells #[.slice A1_0 l1_0.length c1_0] 59 (0, 0)) (by (with_reducible repeat (first | refine blk_drewN ?_ _ | refine blk_drew ?_ | refine blk_alloc ?_ _)); exact BK102.out)) : gb102 ≠ gb116)); have n12_ := Aside0.mk ((by rw [hg]; exact Nat.ne_of_gt (blk_lt (g := gb102) (o := .cells #[.slice A1_0 l1_0.length c1_0] 59 (0, 0)) (by (with_reducible repeat (first | refine blk_drewN ?_ _ | refine blk_drew ?_ | refine blk_alloc ?_ _)); exact BK102.out)) : gb116 ≠ gb102)); have n13_ := Aside0.mk ((by rw [hg]; exact Nat.ne_of_lt (blk_lt (g := gb103) (o := .cells #[.string a0_0, .int .i64 a0_1, .slice A0_2 l0_2.length c0_2, .int .i64 a0_3, .string a0_4, .string a0_5, .slice A0_6 l0_6.length c0_6] 42 (0, 0)) (by (with_reducible repeat (first | refine blk_drewN ?_ _ | refine blk_drew ?_ | refine blk_alloc ?_ _)); exact BK103.out)) : gb103 ≠ gb116)); have n14_ := Aside0.mk ((by rw [hg]; exact Nat.ne_of_gt (blk_lt (g := gb103) (o := .cells #[.string a0_0, .int .i64 a0_1, .slice A0_2 l0_2.length c0_2, .int .i64 a0_3, .string a0_4, .string a0_5, .slice A0_6 l0_6.length c0_6] 42 (0, 0)) (by (with_reducible repeat (first | refine blk_drewN ?_ _ | refine blk_drew ?_ | refine blk_alloc ?_ _)); exact BK103.out)) : gb116 ≠ gb103)); clear HO108; clear HO114; clear BK101; clear BK102; clear BK103; clear HB; have HO108 := n0_; have HO114 := n1_; have BK101 := n2_; have BK102 := n3_; have BK103 := n4_; have HB := n5_; have BK116 := n6_; have GW116 := n7_; have GE116 := n8_; have NB101_116 := n9_; have NB116_101 := n10_; have NB102_116 := n11_; have NB116_102 := n12_; have NB103_116 := n13_; have NB116_103 := n14_; clear n0_ n1_ n2_ n3_ n4_ n5_ n6_ n7_ n8_ n9_ n10_ n11_ n12_ n13_ n14_; clear hb hbox hg; have hnb93 := NB116_101.out; have hnc93 := NB101_116.out; have hnb94 := NB116_102.out; have hnc94 := NB102_116.out; have hnb95 := NB116_103.out; have hnc95 := NB103_116.out; have hcz96_0 : w92.cell? ⟨gb116, 0, none⟩ = some (.string (⟨#[]⟩ : ByteArray)) := (blk_cell BK116.out 0).trans rfl; have hcz96_1 : w92.cell? ⟨gb116, 1, none⟩ = some (.int .i64 0) := (blk_cell BK116.out 1).trans rfl; have hcz96_2 : w92.cell? ⟨gb116, 2, none⟩ = some (.slice none 0 0) := (blk_cell BK116.out 2).trans rfl; have hcz96_3 : w92.cell? ⟨gb116, 3, none⟩ = some (.int .i64 0) := (blk_cell BK116.out 3).trans rfl; have hcz96_4 : w92.cell? ⟨gb116, 4, none⟩ = some (.string (⟨#[]⟩ : ByteArray)) := (blk_cell BK116.out 4).trans rfl; have hcz96_5 : w92.cell? ⟨gb116, 5, none⟩ = some (.string (⟨#[]⟩ : ByteArray)) := (blk_cell BK116.out 5).trans rfl; have hcz96_6 : w92.cell? ⟨gb116, 6, none⟩ = some (.slice none 0 0) := (blk_cell BK116.out 6).trans rfl; have hfz96_0 := blk_frozen BK116.out 0; have hfz96_1 := blk_frozen BK116.out 1; have hfz96_2 := blk_frozen BK116.out 2; have hfz96_3 := blk_frozen BK116.out 3; have hfz96_4 := blk_frozen BK116.out 4; have hfz96_5 := blk_frozen BK116.out 5; have hfz96_6 := blk_frozen BK116.out 6; obtain ⟨Ao97, co97, eo97⟩ := Kd.V_slice HO108.out; subst eo97; obtain ⟨Ao98, co98, eo98⟩ := Kd.V_slice HO114.out; subst eo98) | ((with_reducible refine gate_store (t := 42) (p := 4) rfl ?_); refine store_event (t := 42) (p := 4) (v := ?vo_w99) (w1 := (((((((w92.setCell ⟨gb116, 0, none⟩ (.string t104)).setCell ⟨gb116, 1, none⟩ (.int .i64 t105)).setCell ⟨gb116, 2, none⟩ (.slice Ao97 t106.length co97)).setCell ⟨gb116, 3, none⟩ (.int .i64 t109)).setCell ⟨gb116, 4, none⟩ (.string t110)).setCell ⟨gb116, 5, none⟩ (.string t111)).setCell ⟨gb116, 6, none⟩ (.slice Ao98 t112.length co98))) ?hg ?ho ?hn ?hr ?_; (case ho => rfl); (case hg => rfl); (case hn => rfl); (case hr => first | (go_simp; done) | (go_simp; rfl)); intro w99 hw; have n0_ : Aside0 (Kd.V k44 44 w99 wt.heap.size (fun k_ => k_ ≠ gb101 ∧ k_ ≠ gb102 ∧ k_ ≠ gb103 ∧ k_ ≠ gb116) (.slice Ao97 t106.length co97) t106) := ⟨(by rw [hw]; exact (by (with_reducible repeat (first | apply Kd.V_alloc | apply Kd.V_drewN | apply Kd.V_drew)); exact Kd.V_mono (Kd.V_far (p := ⟨gb116, 6, none⟩) (Kd.V_far (p := ⟨gb116, 5, none⟩) (Kd.V_far (p := ⟨gb116, 4, none⟩) (Kd.V_far (p := ⟨gb116, 3, none⟩) (Kd.V_far (p := ⟨gb116, 2, none⟩) (Kd.V_far (p := ⟨gb116, 1, none⟩) (Kd.V_far (p := ⟨gb116, 0, none⟩) (Kd.V_mono HO108.out (fun k_ hk => (⟨hk, hk.2⟩ : _ ∧ k_ ≠ gb116))) (fun _ hk => hk.2) (.string t104)) (fun _ hk => hk.2) (.int .i64 t105)) (fun _ hk => hk.2) (.slice Ao97 t106.length co97)) (fun _ hk => hk.2) (.int .i64 t109)) (fun _ hk => hk.2) (.string t110)) (fun _ hk => hk.2) (.string t111)) (fun _ hk => hk.2) (.slice Ao98 t112.length co98)) (fun _ hk => ⟨hk.1.1.1, ⟨hk.1.1.2.1, ⟨hk.1.1.2.2, hk.1.2⟩⟩⟩)))⟩; have n1_ : Aside0 (Kd.V k24 24 w99 wt.heap.size (fun k_ => k_ ≠ gb101 ∧ k_ ≠ gb102 ∧ k_ ≠ gb103 ∧ k_ ≠ gb116) (.slice Ao98 t112.length co98) t112) := ⟨(by rw [hw]; exact (by (with_reducible repeat (first | apply Kd.V_alloc | apply Kd.V_drewN | apply Kd.V_drew)); exact Kd.V_mono (Kd.V_far (p := ⟨gb116, 6, none⟩) (Kd.V_far (p := ⟨gb116, 5, none⟩) (Kd.V_far (p := ⟨gb116, 4, none⟩) (Kd.V_far (p := ⟨gb116, 3, none⟩) (Kd.V_far (p := ⟨gb116, 2, none⟩) (Kd.V_far (p := ⟨gb116, 1, none⟩) (Kd.V_far (p := ⟨gb116, 0, none⟩) (Kd.V_mono HO114.out (fun k_ hk => (⟨hk, hk.2⟩ : _ ∧ k_ ≠ gb116))) (fun _ hk => hk.2) (.string t104)) (fun _ hk => hk.2) (.int .i64 t105)) (fun _ hk => hk.2) (.slice Ao97 t106.length co97)) (fun _ hk => hk.2) (.int .i64 t109)) (fun _ hk => hk.2) (.string t110)) (fun _ hk => hk.2) (.string t111)) (fun _ hk => hk.2) (.slice Ao98 t112.length co98)) (fun _ hk => ⟨hk.1.1.1, ⟨hk.1.1.2.1, ⟨hk.1.1.2.2, hk.1.2⟩⟩⟩)))⟩; have n2_ : Aside0 (w99.heap[gb101]? = some (.cells #[.slice A2_0 l2_0.length c2_0] 59 (0, 0))) := ⟨(by rw [hw]; exact (by (with_reducible repeat (first | refine blk_drewN ?_ _ | refine blk_drew ?_ | refine blk_alloc ?_ _)); refine blk_far ?_ NB101_116.out _; (with_reducible repeat (first | refine blk_drewN ?_ _ | refine blk_drew ?_ | refine blk_alloc ?_ _)); refine blk_far ?_ NB101_116.out _; (with_reducible repeat (first | refine blk_drewN ?_ _ | refine blk_drew ?_ | refine blk_alloc ?_ _)); refine blk_far ?_ NB101_116.out _; (with_reducible repeat (first | refine blk_drewN ?_ _ | refine blk_drew ?_ | refine blk_alloc ?_ _)); refine blk_far ?_ NB101_116.out _; (with_reducible repeat (first | refine blk_drewN ?_ _ | refine blk_drew ?_ | refine blk_alloc ?_ _)); refine blk_far ?_ NB101_116.out _; (with_reducible repeat (first | refine blk_drewN ?_ _ | refine blk_drew ?_ | refine blk_alloc ?_ _)); refine blk_far ?_ NB101_116.out _; (with_reducible repeat (first | refine blk_drewN ?_ _ | refine blk_drew ?_ | refine blk_alloc ?_ _)); refine blk_far ?_ NB101_116.out _; (with_reducible repeat (first | refine blk_drewN ?_ _ | refine blk_drew ?_ | refine blk_alloc ?_ _)); exact BK101.out))⟩; have n3_ : Aside0 (w99.heap[gb102]? = some (.cells #[.slice A1_0 l1_0.length c1_0] 59 (0, 0))) := ⟨(by rw [hw]; exact (by (with_reducible repeat (first | refine blk_drewN ?_ _ | refine blk_drew ?_ | refine blk_alloc ?_ _)); refine blk_far ?_ NB102_116.out _; (with_reducible repeat (first | refine blk_drewN ?_ _ | refine blk_drew ?_ | refine blk_alloc ?_ _)); refine blk_far ?_ NB102_116.out _; (with_reducible repeat (first | refine blk_drewN ?_ _ | refine blk_drew ?_ | refine blk_alloc ?_ _)); refine blk_far ?_ NB102_116.out _; (with_reducible repeat (first | refine blk_drewN ?_ _ | refine blk_drew ?_ | refine blk_alloc ?_ _)); refine blk_far ?_ NB102_116.out _; (with_reducible repeat (first | refine blk_drewN ?_ _ | refine blk_drew ?_ | refine blk_alloc ?_ _)); refine blk_far ?_ NB102_116.out _; (with_reducible repeat (first | refine blk_drewN ?_ _ | refine blk_drew ?_ | refine blk_alloc ?_ _)); refine blk_far ?_ NB102_116.out _; (with_reducible repeat (first | refine blk_drewN ?_ _ | refine blk_drew ?_ | refine blk_alloc ?_ _)); refine blk_far ?_ NB102_116.out _; (with_reducible repeat (first | refine blk_drewN ?_ _ | refine blk_drew ?_ | refine blk_alloc ?_ _)); exact BK102.out))⟩; have n4_ : Aside0 (w99.heap[gb103]? = some (.cells #[.string a0_0, .int .i64 a0_1, .slice A0_2 l0_2.length c0_2, .int .i64 a0_3, .string a0_4, .string a0_5, .slice A0_6 l0_6.length c0_6] 42 (0, 0))) := ⟨(by rw [hw]; exact (by (with_reducible repeat (first | refine blk_drewN ?_ _ | refine blk_drew ?_ | refine blk_alloc ?_ _)); refine blk_far ?_ NB103_116.out _; (with_reducible repeat (first | refine blk_drewN ?_ _ | refine blk_drew ?_ | refine blk_alloc ?_ _)); refine blk_far ?_ NB103_116.out _; (with_reducible repeat (first | refine blk_drewN ?_ _ | refine blk_drew ?_ | refine blk_alloc ?_ _)); refine blk_far ?_ NB103_116.out _; (with_reducible repeat (first | refine blk_drewN ?_ _ | refine blk_drew ?_ | refine blk_alloc ?_ _)); refine blk_far ?_ NB103_116.out _; (with_reducible repeat (first | refine blk_drewN ?_ _ | refine blk_drew ?_ | refine blk_alloc ?_ _)); refine blk_far ?_ NB103_116.out _; (with_reducible repeat (first | refine blk_drewN ?_ _ | refine blk_drew ?_ | refine blk_alloc ?_ _)); refine blk_far ?_ NB103_116.out _; (with_reducible repeat (first | refine blk_drewN ?_ _ | refine blk_drew ?_ | refine blk_alloc ?_ _)); refine blk_far ?_ NB103_116.out _; (with_reducible repeat (first | refine blk_drewN ?_ _ | refine blk_drew ?_ | refine blk_alloc ?_ _)); exact BK103.out))⟩; have n5_ : Aside0 (w99.heap[gb116]? = some (.cells #[.string t104, .int .i64 t105, .slice Ao97 t106.length co97, .int .i64 t109, .string t110, .string t111, .slice Ao98 t112.length co98] 42 (0, 0))) := ⟨(by rw [hw]; exact (by (with_reducible repeat (first | refine blk_drewN ?_ _ | refine blk_drew ?_ | refine blk_alloc ?_ _)); refine blk_put (cs := #[.string t104, .int .i64 t105, .slice Ao97 t106.length co97, .int .i64 t109, .string t110, .string t111, .slice none 0 0]) ?_ 6 _ rfl; (with_reducible repeat (first | refine blk_drewN ?_ _ | refine blk_drew ?_ | refine blk_alloc ?_ _)); refine blk_put (cs := #[.string t104, .int .i64 t105, .slice Ao97 t106.length co97, .int .i64 t109, .string t110, .string (⟨#[]⟩ : ByteArray), .slice none 0 0]) ?_ 5 _ rfl; (with_reducible repeat (first | refine blk_drewN ?_ _ | refine blk_drew ?_ | refine blk_alloc ?_ _)); refine blk_put (cs := #[.string t104, .int .i64 t105, .slice Ao97 t106.length co97, .int .i64 t109, .string (⟨#[]⟩ : ByteArray), .string (⟨#[]⟩ : ByteArray), .slice none 0 0]) ?_ 4 _ rfl; (with_reducible repeat (first | refine blk_drewN ?_ _ | refine blk_drew ?_ | refine blk_alloc ?_ _)); refine blk_put (cs := #[.string t104, .int .i64 t105, .slice Ao97 t106.length co97, .int .i64 0, .string (⟨#[]⟩ : ByteArray), .string (⟨#[]⟩ : ByteArray), .slice none 0 0]) ?_ 3 _ rfl; (with_reducible repeat (first | refine blk_drewN ?_ _ | refine blk_drew ?_ | refine blk_alloc ?_ _)); refine blk_put (cs := #[.string t104, .int .i64 t105, .slice none 0 0, .int .i64 0, .string (⟨#[]⟩ : ByteArray), .string (⟨#[]⟩ : ByteArray), .slice none 0 0]) ?_ 2 _ rfl; (with_reducible repeat (first | refine blk_drewN ?_ _ | refine blk_drew ?_ | refine blk_alloc ?_ _)); refine blk_put (cs := #[.string t104, .int .i64 0, .slice none 0 0, .int .i64 0, .string (⟨#[]⟩ : ByteArray), .string (⟨#[]⟩ : ByteArray), .slice none 0 0]) ?_ 1 _ rfl; (with_reducible repeat (first | refine blk_drewN ?_ _ | refine blk_drew ?_ | refine blk_alloc ?_ _)); refine blk_put (cs := #[.string (⟨#[]⟩ : ByteArray), .int .i64 0, .slice none 0 0, .int .i64 0, .string (⟨#[]⟩ : ByteArray), .string (⟨#[]⟩ : ByteArray), .slice none 0 0]) ?_ 0 _ rfl; (with_reducible repeat (first | refine blk_drewN ?_ _ | refine blk_drew ?_ | refine blk_alloc ?_ _)); exact BK116.out))⟩; have n6_ : Aside0 (Below wt.heap.size wt w99) := ⟨(by rw [hw]; exact (by repeat (first | (with_reducible first | exact HB.out | apply below_alloc | apply pw_below_drewN | apply below_drew1 | refine below_set ?_ GE101.out | refine below_set ?_ GE102.out | refine below_set ?_ GE103.out | refine below_set ?_ GE116.out) | exact HB.out)))⟩; clear hw; clear HO108; clear HO114; clear BK101; clear BK102; clear BK103; clear BK116; clear HB; have HO108 := n0_; have HO114 := n1_; have BK101 := n2_; have BK102 := n3_; have BK103 := n4_; have BK116 := n5_; have HB := n6_; clear n0_ n1_ n2_ n3_ n4_ n5_ n6_; have hcz100_0 : w99.cell? ⟨gb102, 0, none⟩ = some (.slice A1_0 l1_0.length c1_0) := (blk_cell BK102.out 0).trans rfl; have hfz100_0 := blk_frozen BK102.out 0) | ((with_reducible refine gate_callee (f := 61) rfl ?_); refine goesL_ (some 31) rfl rfl Tryd.func61 (by kernel_rfl) rfl #[.agg #[.slice A1_0 l1_0.length c1_0], .string (⟨#[100]⟩ : ByteArray), .string (⟨#[98]⟩ : ByteArray)] rfl (by (try simp only [List.map_toArray, List.map_cons, List.map_nil]); first | done | rfl | (simp only [List.length_drop, List.length_take]; rfl)) ?_; (with_reducible refine (schema_Member.calls PS _ _ l1_0 (⟨#[100]⟩ : ByteArray) (⟨#[98]⟩ : ByteArray) t117 t118 t119 t122 t123 t124 t125 false _ ?side1 A5.out).mono ?_); (case side1 => exact Kd.V_mk HC1_0.out (Kd.F_below HPF.out (by repeat (first | (with_reducible first | exact HB.out | apply below_alloc | apply pw_below_drewN | apply below_drew1 | refine below_set ?_ GE101.out | refine below_set ?_ GE102.out | refine below_set ?_ GE103.out | refine below_set ?_ GE116.out) | exact HB.out)))); rintro e w101 ⟨v120, v126, rfl, ho0, ho1, hb⟩; refine ⟨_, rfl, ?_⟩; have n0_ := Aside0.mk (Kd.V_below (by (with_reducible repeat (first | apply Kd.V_alloc | apply Kd.V_drewN | apply Kd.V_drew)); exact HO108.out) hb); have n1_ := Aside0.mk (Kd.V_below (by (with_reducible repeat (first | apply Kd.V_alloc | apply Kd.V_drewN | apply Kd.V_drew)); exact HO114.out) hb); have n2_ := Aside0.mk (Kd.V_lower (Kd.V_mono (ok' := fun k_ => k_ ≠ gb101 ∧ k_ ≠ gb102 ∧ k_ ≠ gb103 ∧ k_ ≠ gb116) ho0 (fun k_ hk_ => ⟨Or.elim hk_ (fun hs_ => HP101.out k_ hs_) (fun hn_ => (Kd.freshB (g := gb101) (o := .cells #[.slice A2_0 l2_0.length c2_0] 59 (0, 0)) (by (with_reducible repeat (first | refine blk_drewN ?_ _ | refine blk_drew ?_ | refine blk_alloc ?_ _)); exact BK101.out) k_ hn_)), Or.elim hk_ (fun hs_ => HP102.out k_ hs_) (fun hn_ => (Kd.freshB (g := gb102) (o := .cells #[.slice A1_0 l1_0.length c1_0] 59 (0, 0)) (by (with_reducible repeat (first | refine blk_drewN ?_ _ | refine blk_drew ?_ | refine blk_alloc ?_ _)); exact BK102.out) k_ hn_)), Or.elim hk_ (fun hs_ => HP103.out k_ hs_) (fun hn_ => (Kd.freshB (g := gb103) (o := .cells #[.string a0_0, .int .i64 a0_1, .slice A0_2 l0_2.length c0_2, .int .i64 a0_3, .string a0_4, .string a0_5, .slice A0_6 l0_6.length c0_6] 42 (0, 0)) (by (with_reducible repeat (first | refine blk_drewN ?_ _ | refine blk_drew ?_ | refine blk_alloc ?_ _)); exact BK103.out) k_ hn_)), Or.elim hk_ (fun hs_ => fun e_ => Nat.not_le.2 (HPL.out k_ hs_) (by rw [e_]; exact GW116.out)) (fun hn_ => (Kd.freshB (g := gb116) (o := .cells #[.string t104, .int .i64 t105, .slice Ao97 t106.length co97, .int .i64 t109, .string t110, .string t111, .slice Ao98 t112.length co98] 42 (0, 0)) (by (with_reducible repeat (first | refine blk_drewN ?_ _ | refine blk_drew ?_ | refine blk_alloc ?_ _)); exact BK116.out) k_ hn_))⟩)) (below_size (by repeat (first | (with_reducible first | exact HB.out | apply below_alloc | apply pw_below_drewN | apply below_drew1 | refine below_set ?_ GE101.out | refine below_set ?_ GE102.out | refine below_set ?_ GE103.out | refine below_set ?_ GE116.out) | exact HB.out)))); have n3_ := Aside0.mk (Kd.V_lower (Kd.V_mono (ok' := fun k_ => k_ ≠ gb101 ∧ k_ ≠ gb102 ∧ k_ ≠ gb103 ∧ k_ ≠ gb116) ho1 (fun k_ hk_ => ⟨Or.elim hk_ (fun hs_ => HP101.out k_ hs_) (fun hn_ => (Kd.freshB (g := gb101) (o := .cells #[.slice A2_0 l2_0.length c2_0] 59 (0, 0)) (by (with_reducible repeat (first | refine blk_drewN ?_ _ | refine blk_drew ?_ | refine blk_alloc ?_ _)); exact BK101.out) k_ hn_)), Or.elim hk_ (fun hs_ => HP102.out k_ hs_) (fun hn_ => (Kd.freshB (g := gb102) (o := .cells #[.slice A1_0 l1_0.length c1_0] 59 (0, 0)) (by (with_reducible repeat (first | refine blk_drewN ?_ _ | refine blk_drew ?_ | refine blk_alloc ?_ _)); exact BK102.out) k_ hn_)), Or.elim hk_ (fun hs_ => HP103.out k_ hs_) (fun hn_ => (Kd.freshB (g := gb103) (o := .cells #[.string a0_0, .int .i64 a0_1, .slice A0_2 l0_2.length c0_2, .int .i64 a0_3, .string a0_4, .string a0_5, .slice A0_6 l0_6.length c0_6] 42 (0, 0)) (by (with_reducible repeat (first | refine blk_drewN ?_ _ | refine blk_drew ?_ | refine blk_alloc ?_ _)); exact BK103.out) k_ hn_)), Or.elim hk_ (fun hs_ => fun e_ => Nat.not_le.2 (HPL.out k_ hs_) (by rw [e_]; exact GW116.out)) (fun hn_ => (Kd.freshB (g := gb116) (o := .cells #[.string t104, .int .i64 t105, .slice Ao97 t106.length co97, .int .i64 t109, .string t110, .string t111, .slice Ao98 t112.length co98] 42 (0, 0)) (by (with_reducible repeat (first | refine blk_drewN ?_ _ | refine blk_drew ?_ | refine blk_alloc ?_ _)); exact BK116.out) k_ hn_))⟩)) (below_size (by repeat (first | (with_reducible first | exact HB.out | apply below_alloc | apply pw_below_drewN | apply below_drew1 | refine below_set ?_ GE101.out | refine below_set ?_ GE102.out | refine below_set ?_ GE103.out | refine below_set ?_ GE116.out) | exact HB.out)))); have n4_ := Aside0.mk (blk_below (g := gb101) (o := .cells #[.slice A2_0 l2_0.length c2_0] 59 (0, 0)) (by (with_reducible repeat (first | refine blk_drewN ?_ _ | refine blk_drew ?_ | refine blk_alloc ?_ _)); exact BK101.out) hb); have n5_ := Aside0.mk (blk_below (g := gb102) (o := .cells #[.slice A1_0 l1_0.length c1_0] 59 (0, 0)) (by (with_reducible repeat (first | refine blk_drewN ?_ _ | refine blk_drew ?_ | refine blk_alloc ?_ _)); exact BK102.out) hb); have n6_ := Aside0.mk (blk_below (g := gb103) (o := .cells #[.string a0_0, .int .i64 a0_1, .slice A0_2 l0_2.length c0_2, .int .i64 a0_3, .string a0_4, .string a0_5, .slice A0_6 l0_6.length c0_6] 42 (0, 0)) (by (with_reducible repeat (first | refine blk_drewN ?_ _ | refine blk_drew ?_ | refine blk_alloc ?_ _)); exact BK103.out) hb); have n7_ := Aside0.mk (blk_below (g := gb116) (o := .cells #[.string t104, .int .i64 t105, .slice Ao97 t106.length co97, .int .i64 t109, .string t110, .string t111, .slice Ao98 t112.length co98] 42 (0, 0)) (by (with_reducible repeat (first | refine blk_drewN ?_ _ | refine blk_drew ?_ | refine blk_alloc ?_ _)); exact BK116.out) hb); have n8_ := Aside0.mk (below_step (by repeat (first | (with_reducible first | exact HB.out | apply below_alloc | apply pw_below_drewN | apply below_drew1 | refine below_set ?_ GE101.out | refine below_set ?_ GE102.out | refine below_set ?_ GE103.out | refine below_set ?_ GE116.out) | exact HB.out)) hb); clear HO108; clear HO114; clear BK101; clear BK102; clear BK103; clear BK116; clear HB; have HO108 := n0_; have HO114 := n1_; have HO121 := n2_; have HO127 := n3_; have BK101 := n4_; have BK102 := n5_; have BK103 := n6_; have BK116 := n7_; have HB := n8_; clear n0_ n1_ n2_ n3_ n4_ n5_ n6_ n7_ n8_; (try clear hb); (try clear hb2); (try clear hk); (try clear hi); (try clear ho0); (try clear ho1)) | ((with_reducible refine gate_dst (N := 6) rfl ?_); refine box_event ?hg (N := 6) ?hd (cs := #[.string (⟨#[]⟩ : ByteArray), .int .i64 0, .slice none 0 0, .int .i64 0, .string (⟨#[]⟩ : ByteArray), .string (⟨#[]⟩ : ByteArray), .slice none 0 0]) (t := 42) ?hr ?_; (case hd => rfl); (case hg => rfl); (case hr => first | (go_simp; done) | (go_simp; rfl)); intro gb129 hg w102 hbox hb; have n0_ := Aside0.mk (Kd.V_below (Kd.V_elderB (by (with_reducible repeat (first | apply Kd.V_alloc | apply Kd.V_drewN | apply Kd.V_drew)); exact HO108.out) gb129 (Nat.le_of_eq hg.symm)) hb); have n1_ := Aside0.mk (Kd.V_below (Kd.V_elderB (by (with_reducible repeat (first | apply Kd.V_alloc | apply Kd.V_drewN | apply Kd.V_drew)); exact HO114.out) gb129 (Nat.le_of_eq hg.symm)) hb); have n2_ := Aside0.mk (Kd.V_below (Kd.V_elderB (by (with_reducible repeat (first | apply Kd.V_alloc | apply Kd.V_drewN | apply Kd.V_drew)); exact HO121.out) gb129 (Nat.le_of_eq hg.symm)) hb); have n3_ := Aside0.mk (Kd.V_below (Kd.V_elderB (by (with_reducible repeat (first | apply Kd.V_alloc | apply Kd.V_drewN | apply Kd.V_drew)); exact HO127.out) gb129 (Nat.le_of_eq hg.symm)) hb); have n4_ := Aside0.mk (blk_below (g := gb101) (o := .cells #[.slice A2_0 l2_0.length c2_0] 59 (0, 0)) (by (with_reducible repeat (first | refine blk_drewN ?_ _ | refine blk_drew ?_ | refine blk_alloc ?_ _)); exact BK101.out) hb); have n5_ := Aside0.mk (blk_below (g := gb102) (o := .cells #[.slice A1_0 l1_0.length c1_0] 59 (0, 0)) (by (with_reducible repeat (first | refine blk_drewN ?_ _ | refine blk_drew ?_ | refine blk_alloc ?_ _)); exact BK102.out) hb); have n6_ := Aside0.mk (blk_below (g := gb103) (o := .cells #[.string a0_0, .int .i64 a0_1, .slice A0_2 l0_2.length c0_2, .int .i64 a0_3, .string a0_4, .string a0_5, .slice A0_6 l0_6.length c0_6] 42 (0, 0)) (by (with_reducible repeat (first | refine blk_drewN ?_ _ | refine blk_drew ?_ | refine blk_alloc ?_ _)); exact BK103.out) hb); have n7_ := Aside0.mk (blk_below (g := gb116) (o := .cells #[.string t104, .int .i64 t105, .slice Ao97 t106.length co97, .int .i64 t109, .string t110, .string t111, .slice Ao98 t112.length co98] 42 (0, 0)) (by (with_reducible repeat (first | refine blk_drewN ?_ _ | refine blk_drew ?_ | refine blk_alloc ?_ _)); exact BK116.out) hb); have n8_ := Aside0.mk (below_step (by repeat (first | (with_reducible first | exact HB.out | apply below_alloc | apply pw_below_drewN | apply below_drew1 | refine below_set ?_ GE101.out | refine below_set ?_ GE102.out | refine below_set ?_ GE103.out | refine below_set ?_ GE116.out) | exact HB.out)) hb); have n9_ := Aside0.mk (hbox); have n10_ := Aside0.mk ((by rw [hg]; exact (below_size (by repeat (first | (with_reducible first | exact HB.out | apply below_alloc | apply pw_below_drewN | apply below_drew1 | refine below_set ?_ GE101.out | refine below_set ?_ GE102.out | refine below_set ?_ GE103.out | refine below_set ?_ GE116.out) | exact HB.out))) : wt.heap.size ≤ gb129)); have n11_ := Aside0.mk ((by rw [hg]; exact (below_size (by repeat (first | (with_reducible first | exact HB.out | apply below_alloc | apply pw_below_drewN | apply below_drew1 | refine below_set ?_ GE101.out | refine below_set ?_ GE102.out | refine below_set ?_ GE103.out | refine below_set ?_ GE116.out) | exact HB.out))) : wt.heap.size ≤ gb129)); have n12_ := Aside0.mk ((by rw [hg]; exact Nat.ne_of_lt (blk_lt (g := gb101) (o := .cells #[.slice A2_0 l2_0.length c2_0] 59 (0, 0)) (by (with_reducible repeat (first | refine blk_drewN ?_ _ | refine blk_drew ?_ | refine blk_alloc ?_ _)); exact BK101.out)) : gb101 ≠ gb129)); have n13_ := Aside0.mk ((by rw [hg]; exact Nat.ne_of_gt (blk_lt (g := gb101) (o := .cells #[.slice A2_0 l2_0.length c2_0] 59 (0, 0)) (by (with_reducible repeat (first | refine blk_drewN ?_ _ | refine blk_drew ?_ | refine blk_alloc ?_ _)); exact BK101.out)) : gb129 ≠ gb101)); have n14_ := Aside0.mk ((by rw [hg]; exact Nat.ne_of_lt (blk_lt (g := gb102) (o := .cells #[.slice A1_0 l1_0.length c1_0] 59 (0, 0)) (by (with_reducible repeat (first | refine blk_drewN ?_ _ | refine blk_drew ?_ | refine blk_alloc ?_ _)); exact BK102.out)) : gb102 ≠ gb129)); have n15_ := Aside0.mk ((by rw [hg]; exact Nat.ne_of_gt (blk_lt (g := gb102) (o := .cells #[.slice A1_0 l1_0.length c1_0] 59 (0, 0)) (by (with_reducible repeat (first | refine blk_drewN ?_ _ | refine blk_drew ?_ | refine blk_alloc ?_ _)); exact BK102.out)) : gb129 ≠ gb102)); have n16_ := Aside0.mk ((by rw [hg]; exact Nat.ne_of_lt (blk_lt (g := gb103) (o := .cells #[.string a0_0, .int .i64 a0_1, .slice A0_2 l0_2.length c0_2, .int .i64 a0_3, .string a0_4, .string a0_5, .slice A0_6 l0_6.length c0_6] 42 (0, 0)) (by (with_reducible repeat (first | refine blk_drewN ?_ _ | refine blk_drew ?_ | refine blk_alloc ?_ _)); exact BK103.out)) : gb103 ≠ gb129)); have n17_ := Aside0.mk ((by rw [hg]; exact Nat.ne_of_gt (blk_lt (g := gb103) (o := .cells #[.string a0_0, .int .i64 a0_1, .slice A0_2 l0_2.length c0_2, .int .i64 a0_3, .string a0_4, .string a0_5, .slice A0_6 l0_6.length c0_6] 42 (0, 0)) (by (with_reducible repeat (first | refine blk_drewN ?_ _ | refine blk_drew ?_ | refine blk_alloc ?_ _)); exact BK103.out)) : gb129 ≠ gb103)); have n18_ := Aside0.mk ((by rw [hg]; exact Nat.ne_of_lt (blk_lt (g := gb116) (o := .cells #[.string t104, .int .i64 t105, .slice Ao97 t106.length co97, .int .i64 t109, .string t110, .string t111, .slice Ao98 t112.length co98] 42 (0, 0)) (by (with_reducible repeat (first | refine blk_drewN ?_ _ | refine blk_drew ?_ | refine blk_alloc ?_ _)); exact BK116.out)) : gb116 ≠ gb129)); have n19_ := Aside0.mk ((by rw [hg]; exact Nat.ne_of_gt (blk_lt (g := gb116) (o := .cells #[.string t104, .int .i64 t105, .slice Ao97 t106.length co97, .int .i64 t109, .string t110, .string t111, .slice Ao98 t112.length co98] 42 (0, 0)) (by (with_reducible repeat (first | refine blk_drewN ?_ _ | refine blk_drew ?_ | refine blk_alloc ?_ _)); exact BK116.out)) : gb129 ≠ gb116)); clear HO108; clear HO114; clear HO121; clear HO127; clear BK101; clear BK102; clear BK103; clear BK116; clear HB; have HO108 := n0_; have HO114 := n1_; have HO121 := n2_; have HO127 := n3_; have BK101 := n4_; have BK102 := n5_; have BK103 := n6_; have BK116 := n7_; have HB := n8_; have BK129 := n9_; have GW129 := n10_; have GE129 := n11_; have NB101_129 := n12_; have NB129_101 := n13_; have NB102_129 := n14_; have NB129_102 := n15_; have NB103_129 := n16_; have NB129_103 := n17_; have NB116_129 := n18_; have NB129_116 := n19_; clear n0_ n1_ n2_ n3_ n4_ n5_ n6_ n7_ n8_ n9_ n10_ n11_ n12_ n13_ n14_ n15_ n16_ n17_ n18_ n19_; clear hb hbox hg; have hnb103 := NB129_101.out; have hnc103 := NB101_129.out; have hnb104 := NB129_102.out; have hnc104 := NB102_129.out; have hnb105 := NB129_103.out; have hnc105 := NB103_129.out; have hnb106 := NB129_116.out; have hnc106 := NB116_129.out; have hcz107_0 : w102.cell? ⟨gb129, 0, none⟩ = some (.string (⟨#[]⟩ : ByteArray)) := (blk_cell BK129.out 0).trans rfl; have hcz107_1 : w102.cell? ⟨gb129, 1, none⟩ = some (.int .i64 0) := (blk_cell BK129.out 1).trans rfl; have hcz107_2 : w102.cell? ⟨gb129, 2, none⟩ = some (.slice none 0 0) := (blk_cell BK129.out 2).trans rfl; have hcz107_3 : w102.cell? ⟨gb129, 3, none⟩ = some (.int .i64 0) := (blk_cell BK129.out 3).trans rfl; have hcz107_4 : w102.cell? ⟨gb129, 4, none⟩ = some (.string (⟨#[]⟩ : ByteArray)) := (blk_cell BK129.out 4).trans rfl; have hcz107_5 : w102.cell? ⟨gb129, 5, none⟩ = some (.string (⟨#[]⟩ : ByteArray)) := (blk_cell BK129.out 5).trans rfl; have hcz107_6 : w102.cell? ⟨gb129, 6, none⟩ = some (.slice none 0 0) := (blk_cell BK129.out 6).trans rfl; have hfz107_0 := blk_frozen BK129.out 0; have hfz107_1 := blk_frozen BK129.out 1; have hfz107_2 := blk_frozen BK129.out 2; have hfz107_3 := blk_frozen BK129.out 3; have hfz107_4 := blk_frozen BK129.out 4; have hfz107_5 := blk_frozen BK129.out 5; have hfz107_6 := blk_frozen BK129.out 6; obtain ⟨Ao108, co108, eo108⟩ := Kd.V_slice HO121.out; subst eo108; obtain ⟨Ao109, co109, eo109⟩ := Kd.V_slice HO127.out; subst eo109; have hcz110_0 : w102.cell? ⟨gb102, 0, none⟩ = some (.slice A1_0 l1_0.length c1_0) := (blk_cell BK102.out 0).trans rfl; have hfz110_0 := blk_frozen BK102.out 0) | ((with_reducible refine gate_callee (f := 62) rfl ?_); refine goesL_ (some 36) rfl rfl Tryd.func62 (by kernel_rfl) rfl #[.agg #[.slice A1_0 l1_0.length c1_0]] rfl (by (try simp only [List.map_toArray, List.map_cons, List.map_nil]); first | done | rfl | (simp only [List.length_drop, List.length_take]; rfl)) ?_; (with_reducible refine (schema_Count.calls _ _ l1_0 t130 t131 t132 _ ?side1 ?side2 A6.out).mono ?_); (case side1 => exact Kd.C_below HR1_0.out (by repeat (first | (with_reducible first | exact HB.out | apply below_alloc | apply pw_below_drewN | apply below_drew1 | refine below_set ?_ GE101.out | refine below_set ?_ GE102.out | refine below_set ?_ GE103.out | refine below_set ?_ GE116.out | refine below_set ?_ GE129.out) | exact HB.out))); (case side2 => exact HC1_0.out); rintro e w111 ⟨rfl, hb⟩; refine ⟨_, rfl, ?_⟩; have n0_ := Aside0.mk (Kd.V_below (by (with_reducible repeat (first | apply Kd.V_alloc | apply Kd.V_drewN | apply Kd.V_drew)); exact (Kd.V_mono (Kd.V_far (p := ⟨gb129, 6, none⟩) (Kd.V_far (p := ⟨gb129, 5, none⟩) (Kd.V_far (p := ⟨gb129, 4, none⟩) (Kd.V_far (p := ⟨gb129, 3, none⟩) (Kd.V_far (p := ⟨gb129, 2, none⟩) (Kd.V_far (p := ⟨gb129, 1, none⟩) (Kd.V_far (p := ⟨gb129, 0, none⟩) (Kd.V_mono HO108.out (fun k_ hk => (⟨hk, hk.2⟩ : _ ∧ k_ ≠ gb129))) (fun _ hk => hk.2) (.string t117)) (fun _ hk => hk.2) (.int .i64 t118)) (fun _ hk => hk.2) (.slice Ao108 t119.length co108)) (fun _ hk => hk.2) (.int .i64 t122)) (fun _ hk => hk.2) (.string t123)) (fun _ hk => hk.2) (.string t124)) (fun _ hk => hk.2) (.slice Ao109 t125.length co109)) (fun _ h_ => h_.1))) hb); have n1_ := Aside0.mk (Kd.V_below (by (with_reducible repeat (first | apply Kd.V_alloc | apply Kd.V_drewN | apply Kd.V_drew)); exact (Kd.V_mono (Kd.V_far (p := ⟨gb129, 6, none⟩) (Kd.V_far (p := ⟨gb129, 5, none⟩) (Kd.V_far (p := ⟨gb129, 4, none⟩) (Kd.V_far (p := ⟨gb129, 3, none⟩) (Kd.V_far (p := ⟨gb129, 2, none⟩) (Kd.V_far (p := ⟨gb129, 1, none⟩) (Kd.V_far (p := ⟨gb129, 0, none⟩) (Kd.V_mono HO114.out (fun k_ hk => (⟨hk, hk.2⟩ : _ ∧ k_ ≠ gb129))) (fun _ hk => hk.2) (.string t117)) (fun _ hk => hk.2) (.int .i64 t118)) (fun _ hk => hk.2) (.slice Ao108 t119.length co108)) (fun _ hk => hk.2) (.int .i64 t122)) (fun _ hk => hk.2) (.string t123)) (fun _ hk => hk.2) (.string t124)) (fun _ hk => hk.2) (.slice Ao109 t125.length co109)) (fun _ h_ => h_.1))) hb); have n2_ := Aside0.mk (Kd.V_below (by (with_reducible repeat (first | apply Kd.V_alloc | apply Kd.V_drewN | apply Kd.V_drew)); exact (Kd.V_mono (Kd.V_far (p := ⟨gb129, 6, none⟩) (Kd.V_far (p := ⟨gb129, 5, none⟩) (Kd.V_far (p := ⟨gb129, 4, none⟩) (Kd.V_far (p := ⟨gb129, 3, none⟩) (Kd.V_far (p := ⟨gb129, 2, none⟩) (Kd.V_far (p := ⟨gb129, 1, none⟩) (Kd.V_far (p := ⟨gb129, 0, none⟩) (Kd.V_mono HO121.out (fun k_ hk => (⟨hk, hk.2⟩ : _ ∧ k_ ≠ gb129))) (fun _ hk => hk.2) (.string t117)) (fun _ hk => hk.2) (.int .i64 t118)) (fun _ hk => hk.2) (.slice Ao108 t119.length co108)) (fun _ hk => hk.2) (.int .i64 t122)) (fun _ hk => hk.2) (.string t123)) (fun _ hk => hk.2) (.string t124)) (fun _ hk => hk.2) (.slice Ao109 t125.length co109)) (fun _ h_ => h_.1))) hb); have n3_ := Aside0.mk (Kd.V_below (by (with_reducible repeat (first | apply Kd.V_alloc | apply Kd.V_drewN | apply Kd.V_drew)); exact (Kd.V_mono (Kd.V_far (p := ⟨gb129, 6, none⟩) (Kd.V_far (p := ⟨gb129, 5, none⟩) (Kd.V_far (p := ⟨gb129, 4, none⟩) (Kd.V_far (p := ⟨gb129, 3, none⟩) (Kd.V_far (p := ⟨gb129, 2, none⟩) (Kd.V_far (p := ⟨gb129, 1, none⟩) (Kd.V_far (p := ⟨gb129, 0, none⟩) (Kd.V_mono HO127.out (fun k_ hk => (⟨hk, hk.2⟩ : _ ∧ k_ ≠ gb129))) (fun _ hk => hk.2) (.string t117)) (fun _ hk => hk.2) (.int .i64 t118)) (fun _ hk => hk.2) (.slice Ao108 t119.length co108)) (fun _ hk => hk.2) (.int .i64 t122)) (fun _ hk => hk.2) (.string t123)) (fun _ hk => hk.2) (.string t124)) (fun _ hk => hk.2) (.slice Ao109 t125.length co109)) (fun _ h_ => h_.1))) hb); have n4_ := Aside0.mk (blk_below (g := gb101) (o := .cells #[.slice A2_0 l2_0.length c2_0] 59 (0, 0)) (by (with_reducible repeat (first | refine blk_drewN ?_ _ | refine blk_drew ?_ | refine blk_alloc ?_ _)); refine blk_far ?_ NB101_129.out _; (with_reducible repeat (first | refine blk_drewN ?_ _ | refine blk_drew ?_ | refine blk_alloc ?_ _)); refine blk_far ?_ NB101_129.out _; (with_reducible repeat (first | refine blk_drewN ?_ _ | refine blk_drew ?_ | refine blk_alloc ?_ _)); refine blk_far ?_ NB101_129.out _; (with_reducible repeat (first | refine blk_drewN ?_ _ | refine blk_drew ?_ | refine blk_alloc ?_ _)); refine blk_far ?_ NB101_129.out _; (with_reducible repeat (first | refine blk_drewN ?_ _ | refine blk_drew ?_ | refine blk_alloc ?_ _)); refine blk_far ?_ NB101_129.out _; (with_reducible repeat (first | refine blk_drewN ?_ _ | refine blk_drew ?_ | refine blk_alloc ?_ _)); refine blk_far ?_ NB101_129.out _; (with_reducible repeat (first | refine blk_drewN ?_ _ | refine blk_drew ?_ | refine blk_alloc ?_ _)); refine blk_far ?_ NB101_129.out _; (with_reducible repeat (first | refine blk_drewN ?_ _ | refine blk_drew ?_ | refine blk_alloc ?_ _)); exact BK101.out) hb); have n5_ := Aside0.mk (blk_below (g := gb102) (o := .cells #[.slice A1_0 l1_0.length c1_0] 59 (0, 0)) (by (with_reducible repeat (first | refine blk_drewN ?_ _ | refine blk_drew ?_ | refine blk_alloc ?_ _)); refine blk_far ?_ NB102_129.out _; (with_reducible repeat (first | refine blk_drewN ?_ _ | refine blk_drew ?_ | refine blk_alloc ?_ _)); refine blk_far ?_ NB102_129.out _; (with_reducible repeat (first | refine blk_drewN ?_ _ | refine blk_drew ?_ | refine blk_alloc ?_ _)); refine blk_far ?_ NB102_129.out _; (with_reducible repeat (first | refine blk_drewN ?_ _ | refine blk_drew ?_ | refine blk_alloc ?_ _)); refine blk_far ?_ NB102_129.out _; (with_reducible repeat (first | refine blk_drewN ?_ _ | refine blk_drew ?_ | refine blk_alloc ?_ _)); refine blk_far ?_ NB102_129.out _; (with_reducible repeat (first | refine blk_drewN ?_ _ | refine blk_drew ?_ | refine blk_alloc ?_ _)); refine blk_far ?_ NB102_129.out _; (with_reducible repeat (first | refine blk_drewN ?_ _ | refine blk_drew ?_ | refine blk_alloc ?_ _)); refine blk_far ?_ NB102_129.out _; (with_reducible repeat (first | refine blk_drewN ?_ _ | refine blk_drew ?_ | refine blk_alloc ?_ _)); exact BK102.out) hb); have n6_ := Aside0.mk (blk_below (g := gb103) (o := .cells #[.string a0_0, .int .i64 a0_1, .slice A0_2 l0_2.length c0_2, .int .i64 a0_3, .string a0_4, .string a0_5, .slice A0_6 l0_6.length c0_6] 42 (0, 0)) (by (with_reducible repeat (first | refine blk_drewN ?_ _ | refine blk_drew ?_ | refine blk_alloc ?_ _)); refine blk_far ?_ NB103_129.out _; (with_reducible repeat (first | refine blk_drewN ?_ _ | refine blk_drew ?_ | refine blk_alloc ?_ _)); refine blk_far ?_ NB103_129.out _; (with_reducible repeat (first | refine blk_drewN ?_ _ | refine blk_drew ?_ | refine blk_alloc ?_ _)); refine blk_far ?_ NB103_129.out _; (with_reducible repeat (first | refine blk_drewN ?_ _ | refine blk_drew ?_ | refine blk_alloc ?_ _)); refine blk_far ?_ NB103_129.out _; (with_reducible repeat (first | refine blk_drewN ?_ _ | refine blk_drew ?_ | refine blk_alloc ?_ _)); refine blk_far ?_ NB103_129.out _; (with_reducible repeat (first | refine blk_drewN ?_ _ | refine blk_drew ?_ | refine blk_alloc ?_ _)); refine blk_far ?_ NB103_129.out _; (with_reducible repeat (first | refine blk_drewN ?_ _ | refine blk_drew ?_ | refine blk_alloc ?_ _)); refine blk_far ?_ NB103_129.out _; (with_reducible repeat (first | refine blk_drewN ?_ _ | refine blk_drew ?_ | refine blk_alloc ?_ _)); exact BK103.out) hb); have n7_ := Aside0.mk (blk_below (g := gb116) (o := .cells #[.string t104, .int .i64 t105, .slice Ao97 t106.length co97, .int .i64 t109, .string t110, .string t111, .slice Ao98 t112.length co98] 42 (0, 0)) (by (with_reducible repeat (first | refine blk_drewN ?_ _ | refine blk_drew ?_ | refine blk_alloc ?_ _)); refine blk_far ?_ NB116_129.out _; (with_reducible repeat (first | refine blk_drewN ?_ _ | refine blk_drew ?_ | refine blk_alloc ?_ _)); refine blk_far ?_ NB116_129.out _; (with_reducible repeat (first | refine blk_drewN ?_ _ | refine blk_drew ?_ | refine blk_alloc ?_ _)); refine blk_far ?_ NB116_129.out _; (with_reducible repeat (first | refine blk_drewN ?_ _ | refine blk_drew ?_ | refine blk_alloc ?_ _)); refine blk_far ?_ NB116_129.out _; (with_reducible repeat (first | refine blk_drewN ?_ _ | refine blk_drew ?_ | refine blk_alloc ?_ _)); refine blk_far ?_ NB116_129.out _; (with_reducible repeat (first | refine blk_drewN ?_ _ | refine blk_drew ?_ | refine blk_alloc ?_ _)); refine blk_far ?_ NB116_129.out _; (with_reducible repeat (first | refine blk_drewN ?_ _ | refine blk_drew ?_ | refine blk_alloc ?_ _)); refine blk_far ?_ NB116_129.out _; (with_reducible repeat (first | refine blk_drewN ?_ _ | refine blk_drew ?_ | refine blk_alloc ?_ _)); exact BK116.out) hb); have n8_ := Aside0.mk (blk_below (g := gb129) (o := .cells #[.string t117, .int .i64 t118, .slice Ao108 t119.length co108, .int .i64 t122, .string t123, .string t124, .slice Ao109 t125.length co109] 42 (0, 0)) (by (with_reducible repeat (first | refine blk_drewN ?_ _ | refine blk_drew ?_ | refine blk_alloc ?_ _)); refine blk_put (cs := #[.string t117, .int .i64 t118, .slice Ao108 t119.length co108, .int .i64 t122, .string t123, .string t124, .slice none 0 0]) ?_ 6 _ rfl; (with_reducible repeat (first | refine blk_drewN ?_ _ | refine blk_drew ?_ | refine blk_alloc ?_ _)); refine blk_put (cs := #[.string t117, .int .i64 t118, .slice Ao108 t119.length co108, .int .i64 t122, .string t123, .string (⟨#[]⟩ : ByteArray), .slice none 0 0]) ?_ 5 _ rfl; (with_reducible repeat (first | refine blk_drewN ?_ _ | refine blk_drew ?_ | refine blk_alloc ?_ _)); refine blk_put (cs := #[.string t117, .int .i64 t118, .slice Ao108 t119.length co108, .int .i64 t122, .string (⟨#[]⟩ : ByteArray), .string (⟨#[]⟩ : ByteArray), .slice none 0 0]) ?_ 4 _ rfl; (with_reducible repeat (first | refine blk_drewN ?_ _ | refine blk_drew ?_ | refine blk_alloc ?_ _)); refine blk_put (cs := #[.string t117, .int .i64 t118, .slice Ao108 t119.length co108, .int .i64 0, .string (⟨#[]⟩ : ByteArray), .string (⟨#[]⟩ : ByteArray), .slice none 0 0]) ?_ 3 _ rfl; (with_reducible repeat (first | refine blk_drewN ?_ _ | refine blk_drew ?_ | refine blk_alloc ?_ _)); refine blk_put (cs := #[.string t117, .int .i64 t118, .slice none 0 0, .int .i64 0, .string (⟨#[]⟩ : ByteArray), .string (⟨#[]⟩ : ByteArray), .slice none 0 0]) ?_ 2 _ rfl; (with_reducible repeat (first | refine blk_drewN ?_ _ | refine blk_drew ?_ | refine blk_alloc ?_ _)); refine blk_put (cs := #[.string t117, .int .i64 0, .slice none 0 0, .int .i64 0, .string (⟨#[]⟩ : ByteArray), .string (⟨#[]⟩ : ByteArray), .slice none 0 0]) ?_ 1 _ rfl; (with_reducible repeat (first | refine blk_drewN ?_ _ | refine blk_drew ?_ | refine blk_alloc ?_ _)); refine blk_put (cs := #[.string (⟨#[]⟩ : ByteArray), .int .i64 0, .slice none 0 0, .int .i64 0, .string (⟨#[]⟩ : ByteArray), .string (⟨#[]⟩ : ByteArray), .slice none 0 0]) ?_ 0 _ rfl; (with_reducible repeat (first | refine blk_drewN ?_ _ | refine blk_drew ?_ | refine blk_alloc ?_ _)); exact BK129.out) hb); have n9_ := Aside0.mk (below_step (by repeat (first | (with_reducible first | exact HB.out | apply below_alloc | apply pw_below_drewN | apply below_drew1 | refine below_set ?_ GE101.out | refine below_set ?_ GE102.out | refine below_set ?_ GE103.out | refine below_set ?_ GE116.out | refine below_set ?_ GE129.out) | exact HB.out)) hb); clear HO108; clear HO114; clear HO121; clear HO127; clear BK101; clear BK102; clear BK103; clear BK116; clear BK129; clear HB; have HO108 := n0_; have HO114 := n1_; have HO121 := n2_; have HO127 := n3_; have BK101 := n4_; have BK102 := n5_; have BK103 := n6_; have BK116 := n7_; have BK129 := n8_; have HB := n9_; clear n0_ n1_ n2_ n3_ n4_ n5_ n6_ n7_ n8_ n9_; (try clear hb); (try clear hb2); (try clear hk); (try clear hi)))
                      have n0_ := Aside0.mk (Kd.V_drew HO108.out)
                      have n1_ := Aside0.mk (Kd.V_drew HO114.out)
                      have n2_ := Aside0.mk (Kd.V_drew HO121.out)
                      have n3_ := Aside0.mk (Kd.V_drew HO127.out)
                      have n4_ := Aside0.mk (blk_drew BK101.out)
                      have n5_ := Aside0.mk (blk_drew BK102.out)
                      have n6_ := Aside0.mk (blk_drew BK103.out)
                      have n7_ := Aside0.mk (blk_drew BK116.out)
                      have n8_ := Aside0.mk (blk_drew BK129.out)
                      have n9_ := Aside0.mk (below_drew1 HB.out)
                      clear HO108
                      clear HO114
                      clear HO121
                      clear HO127
                      clear BK101
                      clear BK102
                      clear BK103
                      clear BK116
                      clear BK129
                      clear HB
                      have HO108 := n0_
                      have HO114 := n1_
                      have HO121 := n2_
                      have HO127 := n3_
                      have BK101 := n4_
                      have BK102 := n5_
                      have BK103 := n6_
                      have BK116 := n7_
                      have BK129 := n8_
                      have HB := n9_
                      clear n0_ n1_ n2_ n3_ n4_ n5_ n6_ n7_ n8_ n9_
                      refine start_ (n := 48) (S := fun w' => w'.cell? ⟨gb102, 0, none⟩ = some (.slice A1_0 l1_0.length c1_0) ∧ w'.cell? ⟨gb101, 0, none⟩ = some (.slice A2_0 l2_0.length c2_0) ∧ w'.cell? ⟨gb116, 0, none⟩ = some (.string t104) ∧ w'.cell? ⟨gb116, 1, none⟩ = some (.int .i64 t105) ∧ w'.cell? ⟨gb116, 2, none⟩ = some (.slice Ao97 t106.length co97) ∧ w'.cell? ⟨gb116, 3, none⟩ = some (.int .i64 t109) ∧ w'.cell? ⟨gb116, 4, none⟩ = some (.string t110) ∧ w'.cell? ⟨gb116, 5, none⟩ = some (.string t111) ∧ w'.cell? ⟨gb116, 6, none⟩ = some (.slice Ao98 t112.length co98) ∧ w'.cell? ⟨gb103, 0, none⟩ = some (.string a0_0) ∧ w'.cell? ⟨gb103, 1, none⟩ = some (.int .i64 a0_1) ∧ w'.cell? ⟨gb103, 2, none⟩ = some (.slice A0_2 l0_2.length c0_2) ∧ w'.cell? ⟨gb103, 3, none⟩ = some (.int .i64 a0_3) ∧ w'.cell? ⟨gb103, 4, none⟩ = some (.string a0_4) ∧ w'.cell? ⟨gb103, 5, none⟩ = some (.string a0_5) ∧ w'.cell? ⟨gb103, 6, none⟩ = some (.slice A0_6 l0_6.length c0_6)) (ds := []) #[false, false, false, false, false, false, false, false, false, false, false, false, false, false, false, false, false, false, false, false, false, false, false, false, false, false, false, false, false, false, false, false, false, false, false, false, false, false, false, false, false, false, false, false, false, false, false, false] (by kernel_rfl) rfl rfl ⟨(blk_cell BK102.out 0).trans rfl, (blk_cell BK101.out 0).trans rfl, (blk_cell BK116.out 0).trans rfl, (blk_cell BK116.out 1).trans rfl, (blk_cell BK116.out 2).trans rfl, (blk_cell BK116.out 3).trans rfl, (blk_cell BK116.out 4).trans rfl, (blk_cell BK116.out 5).trans rfl, (blk_cell BK116.out 6).trans rfl, (blk_cell BK103.out 0).trans rfl, (blk_cell BK103.out 1).trans rfl, (blk_cell BK103.out 2).trans rfl, (blk_cell BK103.out 3).trans rfl, (blk_cell BK103.out 4).trans rfl, (blk_cell BK103.out 5).trans rfl, (blk_cell BK103.out 6).trans rfl⟩ (fun hHeld => ?_); refine with_tabW awk11t.tab7 awk11t.bits7 (fun HT_ HW_ => ?_)
                      generalize w111.drew = w112 at HO108 HO114 HO121 HO127 BK101 BK102 BK103 BK116 BK129 HB hHeld ⊢
                      refine take_ (i := 0) (N := some 40) (v := ?_) (a' := ?_) #[true, false, false, false, false, false, false, false, false, false, false, false, false, false, false, false, false, false, false, false, false, false, false, false, false, false, false, false, false, false, false, false, false, false, false, false, false, false, false, false, false, false, false, false, false, false, false, false] rfl rfl (take_ofW HT_.out HW_.out (by kernel_rfl)) (fun _ _ _ h => h) (Or.inl ⟨by rfl, ?_⟩) hHeld ?_ ?_
                      rotate_left
                      · rintro w' ⟨s0, s1, s2, s3, s4, s5, s6, s7, s8, s9, s10, s11, s12, s13, s14, s15⟩
                        go_simp
                        with_reducible rfl
                      rotate_left
                      · simp only [Act.put, List.setIfInBounds_toArray, List.set_cons_zero, List.set_cons_succ, i64_w, i32_w]
                        rfl
                      refine one_ (i := 1) (N := some 41) #[true, true, false, false, false, false, false, false, false, false, false, false, false, false, false, false, false, false, false, false, false, false, false, false, false, false, false, false, false, false, false, false, false, false, false, false, false, false, false, false, false, false, false, false, false, false, false, false] rfl rfl (one_of HT_.out (by kernel_rfl)) (by decide) (fun K hK => ?_)
                      refine goes_ Tryd.func63 (by kernel_rfl) rfl #[.agg #[.slice A1_0 l1_0.length c1_0]] (by rfl) rfl rfl (by (try simp only [List.map_toArray, List.map_cons, List.map_nil]); first | done | rfl | (simp only [List.length_drop, List.length_take]; rfl)) ?_
                      with_reducible refine (schema_Form.calls k _ _ l1_0 true _ ?sideL ?side1 ?side2 A7.out).mono ?_
                      (case sideL => exact HL.out.below (by repeat (first | (with_reducible first | exact HB.out | exact Below.refl _ _ | apply below_alloc | apply pw_below_drewN | apply below_drew1 | refine below_set ?_ GE101.out | refine below_set ?_ GE102.out | refine below_set ?_ GE103.out | refine below_set ?_ GE116.out | refine below_set ?_ GE129.out) | exact HB.out)))
                      (case side1 => repeat (first | exact (Kd.C_below HR1_0.out HB.out) | (with_reducible refine Kd.C_alloc ?_ _) | (with_reducible refine Kd.C_drewN ?_ _) | (with_reducible refine Kd.C_drew ?_)))
                      (case side2 => exact HC1_0.out)
                      rintro e w113 ⟨rfl, hb⟩
                      refine ⟨_, rfl, ?_⟩
                      have n0_ := Aside0.mk (Kd.V_below (by (with_reducible repeat (first | apply Kd.V_alloc | apply Kd.V_drewN | apply Kd.V_drew)); exact HO108.out) hb)
                      have n1_ := Aside0.mk (Kd.V_below (by (with_reducible repeat (first | apply Kd.V_alloc | apply Kd.V_drewN | apply Kd.V_drew)); exact HO114.out) hb)
                      have n2_ := Aside0.mk (Kd.V_below (by (with_reducible repeat (first | apply Kd.V_alloc | apply Kd.V_drewN | apply Kd.V_drew)); exact HO121.out) hb)
                      have n3_ := Aside0.mk (Kd.V_below (by (with_reducible repeat (first | apply Kd.V_alloc | apply Kd.V_drewN | apply Kd.V_drew)); exact HO127.out) hb)
                      have n4_ := Aside0.mk (blk_below (g := gb101) (o := .cells #[.slice A2_0 l2_0.length c2_0] 59 (0, 0)) (by (with_reducible repeat (first | refine blk_drewN ?_ _ | refine blk_drew ?_ | refine blk_alloc ?_ _)); exact BK101.out) hb)
                      have n5_ := Aside0.mk (blk_below (g := gb102) (o := .cells #[.slice A1_0 l1_0.length c1_0] 59 (0, 0)) (by (with_reducible repeat (first | refine blk_drewN ?_ _ | refine blk_drew ?_ | refine blk_alloc ?_ _)); exact BK102.out) hb)
                      have n6_ := Aside0.mk (blk_below (g := gb103) (o := .cells #[.string a0_0, .int .i64 a0_1, .slice A0_2 l0_2.length c0_2, .int .i64 a0_3, .string a0_4, .string a0_5, .slice A0_6 l0_6.length c0_6] 42 (0, 0)) (by (with_reducible repeat (first | refine blk_drewN ?_ _ | refine blk_drew ?_ | refine blk_alloc ?_ _)); exact BK103.out) hb)
                      have n7_ := Aside0.mk (blk_below (g := gb116) (o := .cells #[.string t104, .int .i64 t105, .slice Ao97 t106.length co97, .int .i64 t109, .string t110, .string t111, .slice Ao98 t112.length co98] 42 (0, 0)) (by (with_reducible repeat (first | refine blk_drewN ?_ _ | refine blk_drew ?_ | refine blk_alloc ?_ _)); exact BK116.out) hb)
                      have n8_ := Aside0.mk (blk_below (g := gb129) (o := .cells #[.string t117, .int .i64 t118, .slice Ao108 t119.length co108, .int .i64 t122, .string t123, .string t124, .slice Ao109 t125.length co109] 42 (0, 0)) (by (with_reducible repeat (first | refine blk_drewN ?_ _ | refine blk_drew ?_ | refine blk_alloc ?_ _)); exact BK129.out) hb)
                      have n9_ := Aside0.mk (below_step (by repeat (first | (with_reducible first | exact HB.out | apply below_alloc | apply pw_below_drewN | apply below_drew1 | refine below_set ?_ GE101.out | refine below_set ?_ GE102.out | refine below_set ?_ GE103.out | refine below_set ?_ GE116.out | refine below_set ?_ GE129.out) | exact HB.out)) hb)
                      clear HO108
                      clear HO114
                      clear HO121
                      clear HO127
                      clear BK101
                      clear BK102
                      clear BK103
                      clear BK116
                      clear BK129
                      clear HB
                      have HO108 := n0_
                      have HO114 := n1_
                      have HO121 := n2_
                      have HO127 := n3_
                      have BK101 := n4_
                      have BK102 := n5_
                      have BK103 := n6_
                      have BK116 := n7_
                      have BK129 := n8_
                      have HB := n9_
                      clear n0_ n1_ n2_ n3_ n4_ n5_ n6_ n7_ n8_ n9_
                      (try clear hb)
                      (try clear hb2)
                      (try clear hk)
                      (try clear hi)
                      refine hK.out _ _ ⟨(blk_cell BK102.out 0).trans rfl, (blk_cell BK101.out 0).trans rfl, (blk_cell BK116.out 0).trans rfl, (blk_cell BK116.out 1).trans rfl, (blk_cell BK116.out 2).trans rfl, (blk_cell BK116.out 3).trans rfl, (blk_cell BK116.out 4).trans rfl, (blk_cell BK116.out 5).trans rfl, (blk_cell BK116.out 6).trans rfl, (blk_cell BK103.out 0).trans rfl, (blk_cell BK103.out 1).trans rfl, (blk_cell BK103.out 2).trans rfl, (blk_cell BK103.out 3).trans rfl, (blk_cell BK103.out 4).trans rfl, (blk_cell BK103.out 5).trans rfl, (blk_cell BK103.out 6).trans rfl⟩ (fun hHeld => ?_)
                      clear hK K
                      refine norm_ (a' := ?_) ?_ ?_
                      rotate_left
                      · show Act.put _ (some 41) _ = _
                        simp only [Act.put, List.setIfInBounds_toArray, List.set_cons_zero, List.set_cons_succ, i64_w, i32_w]
                        rfl
                      refine pure_ (i := 2) (N := some 42) (v := ?_) (a' := ?_) #[true, true, true, false, false, false, false, false, false, false, false, false, false, false, false, false, false, false, false, false, false, false, false, false, false, false, false, false, false, false, false, false, false, false, false, false, false, false, false, false, false, false, false, false, false, false, false, false] rfl rfl (any_of HT_.out (by kernel_rfl)) (fun _ _ _ h => h) (Or.inl ⟨by rfl, ?_⟩) ?_ ?_
                      rotate_left
                      · intro w'
                        go_simp
                        with_reducible rfl
                      rotate_left
                      · simp only [Act.put, List.setIfInBounds_toArray, List.set_cons_zero, List.set_cons_succ, i64_w, i32_w]
                        rfl
                      refine take_ (i := 3) (N := some 43) (v := ?_) (a' := ?_) #[true, true, true, true, false, false, false, false, false, false, false, false, false, false, false, false, false, false, false, false, false, false, false, false, false, false, false, false, false, false, false, false, false, false, false, false, false, false, false, false, false, false, false, false, false, false, false, false] rfl rfl (take_ofW HT_.out HW_.out (by kernel_rfl)) (fun _ _ _ h => h) (Or.inl ⟨by rfl, ?_⟩) hHeld ?_ ?_
                      rotate_left
                      · rintro w' ⟨s0, s1, s2, s3, s4, s5, s6, s7, s8, s9, s10, s11, s12, s13, s14, s15⟩
                        go_simp
                        with_reducible rfl
                      rotate_left
                      · simp only [Act.put, List.setIfInBounds_toArray, List.set_cons_zero, List.set_cons_succ, i64_w, i32_w]
                        rfl
                      refine one_ (i := 4) (N := some 44) #[true, true, true, true, true, false, false, false, false, false, false, false, false, false, false, false, false, false, false, false, false, false, false, false, false, false, false, false, false, false, false, false, false, false, false, false, false, false, false, false, false, false, false, false, false, false, false, false] rfl rfl (one_of HT_.out (by kernel_rfl)) (by decide) (fun K hK => ?_)
                      refine goes_ Tryd.func63 (by kernel_rfl) rfl #[.agg #[.slice A2_0 l2_0.length c2_0]] (by rfl) rfl rfl (by (try simp only [List.map_toArray, List.map_cons, List.map_nil]); first | done | rfl | (simp only [List.length_drop, List.length_take]; rfl)) ?_
                      with_reducible refine (schema_Form.calls k _ _ l2_0 false _ ?sideL ?side1 ?side2 A9.out).mono ?_
                      (case sideL => exact HL.out.below (by repeat (first | (with_reducible first | exact HB.out | exact Below.refl _ _ | apply below_alloc | apply pw_below_drewN | apply below_drew1 | refine below_set ?_ GE101.out | refine below_set ?_ GE102.out | refine below_set ?_ GE103.out | refine below_set ?_ GE116.out | refine below_set ?_ GE129.out) | exact HB.out)))
                      (case side1 => repeat (first | exact (Kd.C_below HR2_0.out HB.out) | (with_reducible refine Kd.C_alloc ?_ _) | (with_reducible refine Kd.C_drewN ?_ _) | (with_reducible refine Kd.C_drew ?_)))
                      (case side2 => exact HC2_0.out)
                      rintro e w114 ⟨rfl, hb⟩
                      refine ⟨_, rfl, ?_⟩
                      have n0_ := Aside0.mk (Kd.V_below (by (with_reducible repeat (first | apply Kd.V_alloc | apply Kd.V_drewN | apply Kd.V_drew)); exact HO108.out) hb)
                      have n1_ := Aside0.mk (Kd.V_below (by (with_reducible repeat (first | apply Kd.V_alloc | apply Kd.V_drewN | apply Kd.V_drew)); exact HO114.out) hb)
                      have n2_ := Aside0.mk (Kd.V_below (by (with_reducible repeat (first | apply Kd.V_alloc | apply Kd.V_drewN | apply Kd.V_drew)); exact HO121.out) hb)
                      have n3_ := Aside0.mk (Kd.V_below (by (with_reducible repeat (first | apply Kd.V_alloc | apply Kd.V_drewN | apply Kd.V_drew)); exact HO127.out) hb)
                      have n4_ := Aside0.mk (blk_below (g := gb101) (o := .cells #[.slice A2_0 l2_0.length c2_0] 59 (0, 0)) (by (with_reducible repeat (first | refine blk_drewN ?_ _ | refine blk_drew ?_ | refine blk_alloc ?_ _)); exact BK101.out) hb)
                      have n5_ := Aside0.mk (blk_below (g := gb102) (o := .cells #[.slice A1_0 l1_0.length c1_0] 59 (0, 0)) (by (with_reducible repeat (first | refine blk_drewN ?_ _ | refine blk_drew ?_ | refine blk_alloc ?_ _)); exact BK102.out) hb)
                      have n6_ := Aside0.mk (blk_below (g := gb103) (o := .cells #[.string a0_0, .int .i64 a0_1, .slice A0_2 l0_2.length c0_2, .int .i64 a0_3, .string a0_4, .string a0_5, .slice A0_6 l0_6.length c0_6] 42 (0, 0)) (by (with_reducible repeat (first | refine blk_drewN ?_ _ | refine blk_drew ?_ | refine blk_alloc ?_ _)); exact BK103.out) hb)
                      have n7_ := Aside0.mk (blk_below (g := gb116) (o := .cells #[.string t104, .int .i64 t105, .slice Ao97 t106.length co97, .int .i64 t109, .string t110, .string t111, .slice Ao98 t112.length co98] 42 (0, 0)) (by (with_reducible repeat (first | refine blk_drewN ?_ _ | refine blk_drew ?_ | refine blk_alloc ?_ _)); exact BK116.out) hb)
                      have n8_ := Aside0.mk (blk_below (g := gb129) (o := .cells #[.string t117, .int .i64 t118, .slice Ao108 t119.length co108, .int .i64 t122, .string t123, .string t124, .slice Ao109 t125.length co109] 42 (0, 0)) (by (with_reducible repeat (first | refine blk_drewN ?_ _ | refine blk_drew ?_ | refine blk_alloc ?_ _)); exact BK129.out) hb)
                      have n9_ := Aside0.mk (below_step (by repeat (first | (with_reducible first | exact HB.out | apply below_alloc | apply pw_below_drewN | apply below_drew1 | refine below_set ?_ GE101.out | refine below_set ?_ GE102.out | refine below_set ?_ GE103.out | refine below_set ?_ GE116.out | refine below_set ?_ GE129.out) | exact HB.out)) hb)
                      clear HO108
                      clear HO114
                      clear HO121
                      clear HO127
                      clear BK101
                      clear BK102
                      clear BK103
                      clear BK116
                      clear BK129
                      clear HB
                      have HO108 := n0_
                      have HO114 := n1_
                      have HO121 := n2_
                      have HO127 := n3_
                      have BK101 := n4_
                      have BK102 := n5_
                      have BK103 := n6_
                      have BK116 := n7_
                      have BK129 := n8_
                      have HB := n9_
                      clear n0_ n1_ n2_ n3_ n4_ n5_ n6_ n7_ n8_ n9_
                      (try clear hb)
                      (try clear hb2)
                      (try clear hk)
                      (try clear hi)
                      refine hK.out _ _ ⟨(blk_cell BK102.out 0).trans rfl, (blk_cell BK101.out 0).trans rfl, (blk_cell BK116.out 0).trans rfl, (blk_cell BK116.out 1).trans rfl, (blk_cell BK116.out 2).trans rfl, (blk_cell BK116.out 3).trans rfl, (blk_cell BK116.out 4).trans rfl, (blk_cell BK116.out 5).trans rfl, (blk_cell BK116.out 6).trans rfl, (blk_cell BK103.out 0).trans rfl, (blk_cell BK103.out 1).trans rfl, (blk_cell BK103.out 2).trans rfl, (blk_cell BK103.out 3).trans rfl, (blk_cell BK103.out 4).trans rfl, (blk_cell BK103.out 5).trans rfl, (blk_cell BK103.out 6).trans rfl⟩ (fun hHeld => ?_)
                      clear hK K
                      refine norm_ (a' := ?_) ?_ ?_
                      rotate_left
                      · show Act.put _ (some 44) _ = _
                        simp only [Act.put, List.setIfInBounds_toArray, List.set_cons_zero, List.set_cons_succ, i64_w, i32_w]
                        rfl
                      refine pure_ (i := 5) (N := some 45) (v := ?_) (a' := ?_) #[true, true, true, true, true, true, false, false, false, false, false, false, false, false, false, false, false, false, false, false, false, false, false, false, false, false, false, false, false, false, false, false, false, false, false, false, false, false, false, false, false, false, false, false, false, false, false, false] rfl rfl (any_of HT_.out (by kernel_rfl)) (fun _ _ _ h => h) (Or.inl ⟨by rfl, ?_⟩) ?_ ?_
                      rotate_left
                      · intro w'
                        go_simp
                        with_reducible rfl
                      rotate_left
                      · simp only [Act.put, List.setIfInBounds_toArray, List.set_cons_zero, List.set_cons_succ, i64_w, i32_w]
                        rfl
                      refine pure_ (i := 6) (N := some 46) (v := ?_) (a' := ?_) #[true, true, true, true, true, true, true, false, false, false, false, false, false, false, false, false, false, false, false, false, false, false, false, false, false, false, false, false, false, false, false, false, false, false, false, false, false, false, false, false, false, false, false, false, false, false, false, false] rfl rfl (any_of HT_.out (by kernel_rfl)) (fun _ _ _ h => h) (Or.inl ⟨by rfl, ?_⟩) ?_ ?_
                      rotate_left
                      · intro w'
                        go_simp
                        with_reducible rfl
                      rotate_left
                      · simp only [Act.put, List.setIfInBounds_toArray, List.set_cons_zero, List.set_cons_succ, i64_w, i32_w]
                        rfl
                      refine pure_ (i := 7) (N := some 47) (v := ?_) (a' := ?_) #[true, true, true, true, true, true, true, true, false, false, false, false, false, false, false, false, false, false, false, false, false, false, false, false, false, false, false, false, false, false, false, false, false, false, false, false, false, false, false, false, false, false, false, false, false, false, false, false] rfl rfl (any_of HT_.out (by kernel_rfl)) (fun _ _ _ h => h) (Or.inl ⟨by rfl, ?_⟩) ?_ ?_
                      rotate_left
                      · intro w'
                        go_simp
                        with_reducible rfl
                      rotate_left
                      · simp only [Act.put, List.setIfInBounds_toArray, List.set_cons_zero, List.set_cons_succ, i64_w, i32_w]
                        rfl
                      refine pure_ (i := 8) (N := some 48) (v := ?_) (a' := ?_) #[true, true, true, true, true, true, true, true, true, false, false, false, false, false, false, false, false, false, false, false, false, false, false, false, false, false, false, false, false, false, false, false, false, false, false, false, false, false, false, false, false, false, false, false, false, false, false, false] rfl rfl (any_of HT_.out (by kernel_rfl)) (fun _ _ _ h => h) (Or.inl ⟨by rfl, ?_⟩) ?_ ?_
                      rotate_left
                      · intro w'
                        go_simp
                        with_reducible rfl
                      rotate_left
                      · simp only [Act.put, List.setIfInBounds_toArray, List.set_cons_zero, List.set_cons_succ, i64_w, i32_w]
                        rfl
                      refine pure_ (i := 9) (N := some 49) (v := ?_) (a' := ?_) #[true, true, true, true, true, true, true, true, true, true, false, false, false, false, false, false, false, false, false, false, false, false, false, false, false, false, false, false, false, false, false, false, false, false, false, false, false, false, false, false, false, false, false, false, false, false, false, false] rfl rfl (any_of HT_.out (by kernel_rfl)) (fun _ _ _ h => h) (Or.inl ⟨by rfl, ?_⟩) ?_ ?_
                      rotate_left
                      · intro w'
                        go_simp
                        with_reducible rfl
                      rotate_left
                      · simp only [Act.put, List.setIfInBounds_toArray, List.set_cons_zero, List.set_cons_succ, i64_w, i32_w]
                        rfl
                      refine pure_ (i := 10) (N := some 50) (v := ?_) (a' := ?_) #[true, true, true, true, true, true, true, true, true, true, true, false, false, false, false, false, false, false, false, false, false, false, false, false, false, false, false, false, false, false, false, false, false, false, false, false, false, false, false, false, false, false, false, false, false, false, false, false] rfl rfl (any_of HT_.out (by kernel_rfl)) (fun _ _ _ h => h) (Or.inl ⟨by rfl, ?_⟩) ?_ ?_
                      rotate_left
                      · intro w'
                        go_simp
                        with_reducible rfl
                      rotate_left
                      · simp only [Act.put, List.setIfInBounds_toArray, List.set_cons_zero, List.set_cons_succ, i64_w, i32_w]
                        rfl
                      refine take_ (i := 11) (N := some 51) (v := ?_) (a' := ?_) #[true, true, true, true, true, true, true, true, true, true, true, true, false, false, false, false, false, false, false, false, false, false, false, false, false, false, false, false, false, false, false, false, false, false, false, false, false, false, false, false, false, false, false, false, false, false, false, false] rfl rfl (take_ofW HT_.out HW_.out (by kernel_rfl)) (fun _ _ _ h => h) (Or.inl ⟨by rfl, ?_⟩) hHeld ?_ ?_
                      rotate_left
                      · rintro w' ⟨s0, s1, s2, s3, s4, s5, s6, s7, s8, s9, s10, s11, s12, s13, s14, s15⟩
                        go_simp
                        with_reducible rfl
                      rotate_left
                      · simp only [Act.put, List.setIfInBounds_toArray, List.set_cons_zero, List.set_cons_succ, i64_w, i32_w]
                        rfl
                      refine take_ (i := 12) (N := some 52) (v := ?_) (a' := ?_) #[true, true, true, true, true, true, true, true, true, true, true, true, true, false, false, false, false, false, false, false, false, false, false, false, false, false, false, false, false, false, false, false, false, false, false, false, false, false, false, false, false, false, false, false, false, false, false, false] rfl rfl (take_ofW HT_.out HW_.out (by kernel_rfl)) (fun _ _ _ h => h) (Or.inl ⟨by rfl, ?_⟩) hHeld ?_ ?_
                      rotate_left
                      · rintro w' ⟨s0, s1, s2, s3, s4, s5, s6, s7, s8, s9, s10, s11, s12, s13, s14, s15⟩
                        go_simp
                        with_reducible rfl
                      rotate_left
                      · simp only [Act.put, List.setIfInBounds_toArray, List.set_cons_zero, List.set_cons_succ, i64_w, i32_w]
                        rfl
                      refine one_ (i := 13) (N := some 53) #[true, true, true, true, true, true, true, true, true, true, true, true, true, true, false, false, false, false, false, false, false, false, false, false, false, false, false, false, false, false, false, false, false, false, false, false, false, false, false, false, false, false, false, false, false, false, false, false] rfl rfl (one_of HT_.out (by kernel_rfl)) (by decide) (fun K hK => ?_)
                      refine goes_ Tryd.func64 (by kernel_rfl) rfl #[.agg #[.string t104, .int .i64 t105, .slice Ao97 t106.length co97, .int .i64 t109, .string t110, .string t111, .slice Ao98 t112.length co98], .agg #[.string a0_0, .int .i64 a0_1, .slice A0_2 l0_2.length c0_2, .int .i64 a0_3, .string a0_4, .string a0_5, .slice A0_6 l0_6.length c0_6]] (by rfl) rfl rfl (by (try simp only [List.map_toArray, List.map_cons, List.map_nil]); first | done | rfl | (simp only [List.length_drop, List.length_take]; rfl)) ?_
                      with_reducible refine (schema_SameMember.calls k t104 t105 _ _ t106 t109 t110 t111 _ _ t112 a0_0 a0_1 _ _ l0_2 a0_3 a0_4 a0_5 _ _ l0_6 true _ ?side1 ?side2 ?side3 ?side4 ?side5 ?side6 ?side7 ?side8 A42.out).mono ?_
                      (case side1 => repeat (first | exact (Kd.V_reads' HO108.out).2.2 | (with_reducible refine Kd.C_alloc ?_ _) | (with_reducible refine Kd.C_drewN ?_ _) | (with_reducible refine Kd.C_drew ?_)))
                      (case side2 => exact (Kd.V_reads' HO108.out).2.1)
                      (case side3 => repeat (first | exact (Kd.V_reads' HO114.out).2.2 | (with_reducible refine Kd.C_alloc ?_ _) | (with_reducible refine Kd.C_drewN ?_ _) | (with_reducible refine Kd.C_drew ?_)))
                      (case side4 => exact (Kd.V_reads' HO114.out).2.1)
                      (case side5 => repeat (first | exact (Kd.C_below HR0_2.out HB.out) | (with_reducible refine Kd.C_alloc ?_ _) | (with_reducible refine Kd.C_drewN ?_ _) | (with_reducible refine Kd.C_drew ?_)))
                      (case side6 => exact HC0_2.out)
                      (case side7 => repeat (first | exact (Kd.C_below HR0_6.out HB.out) | (with_reducible refine Kd.C_alloc ?_ _) | (with_reducible refine Kd.C_drewN ?_ _) | (with_reducible refine Kd.C_drew ?_)))
                      (case side8 => exact HC0_6.out)
                      rintro e w115 ⟨rfl, hb⟩
                      refine ⟨_, rfl, ?_⟩
                      have n0_ := Aside0.mk (Kd.V_below (by (with_reducible repeat (first | apply Kd.V_alloc | apply Kd.V_drewN | apply Kd.V_drew)); exact HO108.out) hb)
                      have n1_ := Aside0.mk (Kd.V_below (by (with_reducible repeat (first | apply Kd.V_alloc | apply Kd.V_drewN | apply Kd.V_drew)); exact HO114.out) hb)
                      have n2_ := Aside0.mk (Kd.V_below (by (with_reducible repeat (first | apply Kd.V_alloc | apply Kd.V_drewN | apply Kd.V_drew)); exact HO121.out) hb)
                      have n3_ := Aside0.mk (Kd.V_below (by (with_reducible repeat (first | apply Kd.V_alloc | apply Kd.V_drewN | apply Kd.V_drew)); exact HO127.out) hb)
                      have n4_ := Aside0.mk (blk_below (g := gb101) (o := .cells #[.slice A2_0 l2_0.length c2_0] 59 (0, 0)) (by (with_reducible repeat (first | refine blk_drewN ?_ _ | refine blk_drew ?_ | refine blk_alloc ?_ _)); exact BK101.out) hb)
                      have n5_ := Aside0.mk (blk_below (g := gb102) (o := .cells #[.slice A1_0 l1_0.length c1_0] 59 (0, 0)) (by (with_reducible repeat (first | refine blk_drewN ?_ _ | refine blk_drew ?_ | refine blk_alloc ?_ _)); exact BK102.out) hb)
                      have n6_ := Aside0.mk (blk_below (g := gb103) (o := .cells #[.string a0_0, .int .i64 a0_1, .slice A0_2 l0_2.length c0_2, .int .i64 a0_3, .string a0_4, .string a0_5, .slice A0_6 l0_6.length c0_6] 42 (0, 0)) (by (with_reducible repeat (first | refine blk_drewN ?_ _ | refine blk_drew ?_ | refine blk_alloc ?_ _)); exact BK103.out) hb)
                      have n7_ := Aside0.mk (blk_below (g := gb116) (o := .cells #[.string t104, .int .i64 t105, .slice Ao97 t106.length co97, .int .i64 t109, .string t110, .string t111, .slice Ao98 t112.length co98] 42 (0, 0)) (by (with_reducible repeat (first | refine blk_drewN ?_ _ | refine blk_drew ?_ | refine blk_alloc ?_ _)); exact BK116.out) hb)
                      have n8_ := Aside0.mk (blk_below (g := gb129) (o := .cells #[.string t117, .int .i64 t118, .slice Ao108 t119.length co108, .int .i64 t122, .string t123, .string t124, .slice Ao109 t125.length co109] 42 (0, 0)) (by (with_reducible repeat (first | refine blk_drewN ?_ _ | refine blk_drew ?_ | refine blk_alloc ?_ _)); exact BK129.out) hb)
                      have n9_ := Aside0.mk (below_step (by repeat (first | (with_reducible first | exact HB.out | apply below_alloc | apply pw_below_drewN | apply below_drew1 | refine below_set ?_ GE101.out | refine below_set ?_ GE102.out | refine below_set ?_ GE103.out | refine below_set ?_ GE116.out | refine below_set ?_ GE129.out) | exact HB.out)) hb)
                      clear HO108
                      clear HO114
                      clear HO121
                      clear HO127
                      clear BK101
                      clear BK102
                      clear BK103
                      clear BK116
                      clear BK129
                      clear HB
                      have HO108 := n0_
                      have HO114 := n1_
                      have HO121 := n2_
                      have HO127 := n3_
                      have BK101 := n4_
                      have BK102 := n5_
                      have BK103 := n6_
                      have BK116 := n7_
                      have BK129 := n8_
                      have HB := n9_
                      clear n0_ n1_ n2_ n3_ n4_ n5_ n6_ n7_ n8_ n9_
                      (try clear hb)
                      (try clear hb2)
                      (try clear hk)
                      (try clear hi)
                      refine hK.out _ _ ⟨(blk_cell BK102.out 0).trans rfl, (blk_cell BK101.out 0).trans rfl, (blk_cell BK116.out 0).trans rfl, (blk_cell BK116.out 1).trans rfl, (blk_cell BK116.out 2).trans rfl, (blk_cell BK116.out 3).trans rfl, (blk_cell BK116.out 4).trans rfl, (blk_cell BK116.out 5).trans rfl, (blk_cell BK116.out 6).trans rfl, (blk_cell BK103.out 0).trans rfl, (blk_cell BK103.out 1).trans rfl, (blk_cell BK103.out 2).trans rfl, (blk_cell BK103.out 3).trans rfl, (blk_cell BK103.out 4).trans rfl, (blk_cell BK103.out 5).trans rfl, (blk_cell BK103.out 6).trans rfl⟩ (fun hHeld => ?_)
                      clear hK K
                      refine norm_ (a' := ?_) ?_ ?_
                      rotate_left
                      · show Act.put _ (some 53) _ = _
                        simp only [Act.put, List.setIfInBounds_toArray, List.set_cons_zero, List.set_cons_succ, i64_w, i32_w]
                        rfl
                      refine pure_ (i := 14) (N := some 54) (v := ?_) (a' := ?_) #[true, true, true, true, true, true, true, true, true, true, true, true, true, true, true, false, false, false, false, false, false, false, false, false, false, false, false, false, false, false, false, false, false, false, false, false, false, false, false, false, false, false, false, false, false, false, false, false] rfl rfl (any_of HT_.out (by kernel_rfl)) (fun _ _ _ h => h) (Or.inl ⟨by rfl, ?_⟩) ?_ ?_
                      rotate_left
                      · intro w'
                        go_simp
                        with_reducible rfl
                      rotate_left
                      · simp only [Act.put, List.setIfInBounds_toArray, List.set_cons_zero, List.set_cons_succ, i64_w, i32_w]
                        rfl
                      refine pure_ (i := 15) (N := some 55) (v := ?_) (a' := ?_) #[true, true, true, true, true, true, true, true, true, true, true, true, true, true, true, true, false, false, false, false, false, false, false, false, false, false, false, false, false, false, false, false, false, false, false, false, false, false, false, false, false, false, false, false, false, false, false, false] rfl rfl (any_of HT_.out (by kernel_rfl)) (fun _ _ _ h => h) (Or.inl ⟨by rfl, ?_⟩) ?_ ?_
                      rotate_left
                      · intro w'
                        go_simp
                        with_reducible rfl
                      rotate_left
                      · simp only [Act.put, List.setIfInBounds_toArray, List.set_cons_zero, List.set_cons_succ, i64_w, i32_w]
                        rfl
                      refine pure_ (i := 16) (N := some 56) (v := ?_) (a' := ?_) #[true, true, true, true, true, true, true, true, true, true, true, true, true, true, true, true, true, false, false, false, false, false, false, false, false, false, false, false, false, false, false, false, false, false, false, false, false, false, false, false, false, false, false, false, false, false, false, false] rfl rfl (any_of HT_.out (by kernel_rfl)) (fun _ _ _ h => h) (Or.inl ⟨by rfl, ?_⟩) ?_ ?_
                      rotate_left
                      · intro w'
                        go_simp
                        with_reducible rfl
                      rotate_left
                      · simp only [Act.put, List.setIfInBounds_toArray, List.set_cons_zero, List.set_cons_succ, i64_w, i32_w]
                        rfl
                      refine pure_ (i := 17) (N := some 57) (v := ?_) (a' := ?_) #[true, true, true, true, true, true, true, true, true, true, true, true, true, true, true, true, true, true, false, false, false, false, false, false, false, false, false, false, false, false, false, false, false, false, false, false, false, false, false, false, false, false, false, false, false, false, false, false] rfl rfl (any_of HT_.out (by kernel_rfl)) (fun _ _ _ h => h) (Or.inl ⟨by rfl, ?_⟩) ?_ ?_
                      rotate_left
                      · intro w'
                        go_simp
                        with_reducible rfl
                      rotate_left
                      · simp only [Act.put, List.setIfInBounds_toArray, List.set_cons_zero, List.set_cons_succ, i64_w, i32_w]
                        rfl
                      refine pure_ (i := 18) (N := some 58) (v := ?_) (a' := ?_) #[true, true, true, true, true, true, true, true, true, true, true, true, true, true, true, true, true, true, true, false, false, false, false, false, false, false, false, false, false, false, false, false, false, false, false, false, false, false, false, false, false, false, false, false, false, false, false, false] rfl rfl (any_of HT_.out (by kernel_rfl)) (fun _ _ _ h => h) (Or.inl ⟨by rfl, ?_⟩) ?_ ?_
                      rotate_left
                      · intro w'
                        go_simp
                        with_reducible rfl
                      rotate_left
                      · simp only [Act.put, List.setIfInBounds_toArray, List.set_cons_zero, List.set_cons_succ, i64_w, i32_w]
                        rfl
                      refine pure_ (i := 19) (N := some 59) (v := ?_) (a' := ?_) #[true, true, true, true, true, true, true, true, true, true, true, true, true, true, true, true, true, true, true, true, false, false, false, false, false, false, false, false, false, false, false, false, false, false, false, false, false, false, false, false, false, false, false, false, false, false, false, false] rfl rfl (any_of HT_.out (by kernel_rfl)) (fun _ _ _ h => h) (Or.inl ⟨by rfl, ?_⟩) ?_ ?_
                      rotate_left
                      · intro w'
                        go_simp
                        with_reducible rfl
                      rotate_left
                      · simp only [Act.put, List.setIfInBounds_toArray, List.set_cons_zero, List.set_cons_succ, i64_w, i32_w]
                        rfl
                      refine pure_ (i := 20) (N := some 60) (v := ?_) (a' := ?_) #[true, true, true, true, true, true, true, true, true, true, true, true, true, true, true, true, true, true, true, true, true, false, false, false, false, false, false, false, false, false, false, false, false, false, false, false, false, false, false, false, false, false, false, false, false, false, false, false] rfl rfl (any_of HT_.out (by kernel_rfl)) (fun _ _ _ h => h) (Or.inl ⟨by rfl, ?_⟩) ?_ ?_
                      rotate_left
                      · intro w'
                        go_simp
                        with_reducible rfl
                      rotate_left
                      · simp only [Act.put, List.setIfInBounds_toArray, List.set_cons_zero, List.set_cons_succ, i64_w, i32_w]
                        rfl
                      refine pure_ (i := 21) (N := some 61) (v := ?_) (a' := ?_) #[true, true, true, true, true, true, true, true, true, true, true, true, true, true, true, true, true, true, true, true, true, true, false, false, false, false, false, false, false, false, false, false, false, false, false, false, false, false, false, false, false, false, false, false, false, false, false, false] rfl rfl (any_of HT_.out (by kernel_rfl)) (fun _ _ _ h => h) (Or.inl ⟨by rfl, ?_⟩) ?_ ?_
                      rotate_left
                      · intro w'
                        go_simp
                        with_reducible rfl
                      rotate_left
                      · simp only [Act.put, List.setIfInBounds_toArray, List.set_cons_zero, List.set_cons_succ, i64_w, i32_w]
                        rfl
                      refine pure_ (i := 22) (N := some 62) (v := ?_) (a' := ?_) #[true, true, true, true, true, true, true, true, true, true, true, true, true, true, true, true, true, true, true, true, true, true, true, false, false, false, false, false, false, false, false, false, false, false, false, false, false, false, false, false, false, false, false, false, false, false, false, false] rfl rfl (any_of HT_.out (by kernel_rfl)) (fun _ _ _ h => h) (Or.inl ⟨by rfl, ?_⟩) ?_ ?_
                      rotate_left
                      · intro w'
                        go_simp
                        with_reducible rfl
                      rotate_left
                      · simp only [Act.put, List.setIfInBounds_toArray, List.set_cons_zero, List.set_cons_succ, i64_w, i32_w]
                        rfl
                      refine pure_ (i := 23) (N := some 63) (v := ?_) (a' := ?_) #[true, true, true, true, true, true, true, true, true, true, true, true, true, true, true, true, true, true, true, true, true, true, true, true, false, false, false, false, false, false, false, false, false, false, false, false, false, false, false, false, false, false, false, false, false, false, false, false] rfl rfl (any_of HT_.out (by kernel_rfl)) (fun _ _ _ h => h) (Or.inl ⟨by rfl, ?_⟩) ?_ ?_
                      rotate_left
                      · intro w'
                        go_simp
                        with_reducible rfl
                      rotate_left
                      · simp only [Act.put, List.setIfInBounds_toArray, List.set_cons_zero, List.set_cons_succ, i64_w, i32_w]
                        rfl
                      refine pure_ (i := 24) (N := some 64) (v := ?_) (a' := ?_) #[true, true, true, true, true, true, true, true, true, true, true, true, true, true, true, true, true, true, true, true, true, true, true, true, true, false, false, false, false, false, false, false, false, false, false, false, false, false, false, false, false, false, false, false, false, false, false, false] rfl rfl (any_of HT_.out (by kernel_rfl)) (fun _ _ _ h => h) (Or.inl ⟨by rfl, ?_⟩) ?_ ?_
                      rotate_left
                      · intro w'
                        go_simp
                        with_reducible rfl
                      rotate_left
                      · simp only [Act.put, List.setIfInBounds_toArray, List.set_cons_zero, List.set_cons_succ, i64_w, i32_w]
                        rfl
                      refine pure_ (i := 25) (N := some 65) (v := ?_) (a' := ?_) #[true, true, true, true, true, true, true, true, true, true, true, true, true, true, true, true, true, true, true, true, true, true, true, true, true, true, false, false, false, false, false, false, false, false, false, false, false, false, false, false, false, false, false, false, false, false, false, false] rfl rfl (any_of HT_.out (by kernel_rfl)) (fun _ _ _ h => h) (Or.inl ⟨by rfl, ?_⟩) ?_ ?_
                      rotate_left
                      · intro w'
                        go_simp
                        with_reducible rfl
                      rotate_left
                      · simp only [Act.put, List.setIfInBounds_toArray, List.set_cons_zero, List.set_cons_succ, i64_w, i32_w]
                        rfl
                      refine pure_ (i := 26) (N := some 66) (v := ?_) (a' := ?_) #[true, true, true, true, true, true, true, true, true, true, true, true, true, true, true, true, true, true, true, true, true, true, true, true, true, true, true, false, false, false, false, false, false, false, false, false, false, false, false, false, false, false, false, false, false, false, false, false] rfl rfl (any_of HT_.out (by kernel_rfl)) (fun _ _ _ h => h) (Or.inl ⟨by rfl, ?_⟩) ?_ ?_
                      rotate_left
                      · intro w'
                        go_simp
                        with_reducible rfl
                      rotate_left
                      · simp only [Act.put, List.setIfInBounds_toArray, List.set_cons_zero, List.set_cons_succ, i64_w, i32_w]
                        rfl
                      refine pure_ (i := 27) (N := some 67) (v := ?_) (a' := ?_) #[true, true, true, true, true, true, true, true, true, true, true, true, true, true, true, true, true, true, true, true, true, true, true, true, true, true, true, true, false, false, false, false, false, false, false, false, false, false, false, false, false, false, false, false, false, false, false, false] rfl rfl (any_of HT_.out (by kernel_rfl)) (fun _ _ _ h => h) (Or.inl ⟨by rfl, ?_⟩) ?_ ?_
                      rotate_left
                      · intro w'
                        go_simp
                        with_reducible rfl
                      rotate_left
                      · simp only [Act.put, List.setIfInBounds_toArray, List.set_cons_zero, List.set_cons_succ, i64_w, i32_w]
                        rfl
                      refine pure_ (i := 28) (N := some 68) (v := ?_) (a' := ?_) #[true, true, true, true, true, true, true, true, true, true, true, true, true, true, true, true, true, true, true, true, true, true, true, true, true, true, true, true, true, false, false, false, false, false, false, false, false, false, false, false, false, false, false, false, false, false, false, false] rfl rfl (any_of HT_.out (by kernel_rfl)) (fun _ _ _ h => h) (Or.inl ⟨by rfl, ?_⟩) ?_ ?_
                      rotate_left
                      · intro w'
                        go_simp
                        with_reducible rfl
                      rotate_left
                      · simp only [Act.put, List.setIfInBounds_toArray, List.set_cons_zero, List.set_cons_succ, i64_w, i32_w]
                        rfl
                      refine pure_ (i := 29) (N := some 69) (v := ?_) (a' := ?_) #[true, true, true, true, true, true, true, true, true, true, true, true, true, true, true, true, true, true, true, true, true, true, true, true, true, true, true, true, true, true, false, false, false, false, false, false, false, false, false, false, false, false, false, false, false, false, false, false] rfl rfl (any_of HT_.out (by kernel_rfl)) (fun _ _ _ h => h) (Or.inl ⟨by rfl, ?_⟩) ?_ ?_
                      rotate_left
                      · intro w'
                        go_simp
                        with_reducible rfl
                      rotate_left
                      · simp only [Act.put, List.setIfInBounds_toArray, List.set_cons_zero, List.set_cons_succ, i64_w, i32_w]
                        rfl
                      refine pure_ (i := 30) (N := some 70) (v := ?_) (a' := ?_) #[true, true, true, true, true, true, true, true, true, true, true, true, true, true, true, true, true, true, true, true, true, true, true, true, true, true, true, true, true, true, true, false, false, false, false, false, false, false, false, false, false, false, false, false, false, false, false, false] rfl rfl (any_of HT_.out (by kernel_rfl)) (fun _ _ _ h => h) (Or.inl ⟨by rfl, ?_⟩) ?_ ?_
                      rotate_left
                      · intro w'
                        go_simp
                        with_reducible rfl
                      rotate_left
                      · simp only [Act.put, List.setIfInBounds_toArray, List.set_cons_zero, List.set_cons_succ, i64_w, i32_w]
                        rfl
                      refine pure_ (i := 31) (N := some 71) (v := ?_) (a' := ?_) #[true, true, true, true, true, true, true, true, true, true, true, true, true, true, true, true, true, true, true, true, true, true, true, true, true, true, true, true, true, true, true, true, false, false, false, false, false, false, false, false, false, false, false, false, false, false, false, false] rfl rfl (any_of HT_.out (by kernel_rfl)) (fun _ _ _ h => h) (Or.inl ⟨by rfl, ?_⟩) ?_ ?_
                      rotate_left
                      · intro w'
                        go_simp
                        with_reducible rfl
                      rotate_left
                      · simp only [Act.put, List.setIfInBounds_toArray, List.set_cons_zero, List.set_cons_succ, i64_w, i32_w]
                        rfl
                      refine take_ (i := 32) (N := some 72) (v := ?_) (a' := ?_) #[true, true, true, true, true, true, true, true, true, true, true, true, true, true, true, true, true, true, true, true, true, true, true, true, true, true, true, true, true, true, true, true, true, false, false, false, false, false, false, false, false, false, false, false, false, false, false, false] rfl rfl (take_ofW HT_.out HW_.out (by kernel_rfl)) (fun _ _ _ h => h) (Or.inl ⟨by rfl, ?_⟩) hHeld ?_ ?_
                      rotate_left
                      · rintro w' ⟨s0, s1, s2, s3, s4, s5, s6, s7, s8, s9, s10, s11, s12, s13, s14, s15⟩
                        go_simp
                        with_reducible rfl
                      rotate_left
                      · simp only [Act.put, List.setIfInBounds_toArray, List.set_cons_zero, List.set_cons_succ, i64_w, i32_w]
                        rfl
                      refine take_ (i := 34) (N := some 74) (v := ?_) (a' := ?_) #[true, true, true, true, true, true, true, true, true, true, true, true, true, true, true, true, true, true, true, true, true, true, true, true, true, true, true, true, true, true, true, true, true, false, true, false, false, false, false, false, false, false, false, false, false, false, false, false] rfl rfl (take_ofW HT_.out HW_.out (by kernel_rfl)) (fun _ _ _ h => h) (Or.inl ⟨by rfl, ?_⟩) hHeld ?_ ?_
                      rotate_left
                      · rintro w' ⟨s0, s1, s2, s3, s4, s5, s6, s7, s8, s9, s10, s11, s12, s13, s14, s15⟩
                        go_simp
                        with_reducible rfl
                      rotate_left
                      · simp only [Act.put, List.setIfInBounds_toArray, List.set_cons_zero, List.set_cons_succ, i64_w, i32_w]
                        rfl
                      refine one_ (i := 33) (N := some 73) #[true, true, true, true, true, true, true, true, true, true, true, true, true, true, true, true, true, true, true, true, true, true, true, true, true, true, true, true, true, true, true, true, true, true, true, false, false, false, false, false, false, false, false, false, false, false, false, false] rfl rfl (one_of HT_.out (by kernel_rfl)) (by decide) (fun K hK => ?_)
                      refine goes_ Tryd.func66 (by kernel_rfl) rfl #[.agg #[.slice A1_0 l1_0.length c1_0]] (by rfl) rfl rfl (by (try simp only [List.map_toArray, List.map_cons, List.map_nil]); first | done | rfl | (simp only [List.length_drop, List.length_take]; rfl)) ?_
                      with_reducible refine (schema_Clone.calls k _ _ l1_0 t136 _ ?side1 ?side2 A79.out).mono ?_
                      (case side1 => repeat (first | exact (Kd.C_below HR1_0.out HB.out) | (with_reducible refine Kd.C_alloc ?_ _) | (with_reducible refine Kd.C_drewN ?_ _) | (with_reducible refine Kd.C_drew ?_)))
                      (case side2 => exact HC1_0.out)
                      rintro e w116 ⟨v137, rfl, ho0, hb⟩
                      refine ⟨_, rfl, ?_⟩
                      have n0_ := Aside0.mk (Kd.V_elder' (by (with_reducible repeat (first | apply Kd.V_alloc | apply Kd.V_drewN | apply Kd.V_drew)); exact HO108.out) (Kd.N_base ho0) hb)
                      have n1_ := Aside0.mk (Kd.V_elder' (by (with_reducible repeat (first | apply Kd.V_alloc | apply Kd.V_drewN | apply Kd.V_drew)); exact HO114.out) (Kd.N_base ho0) hb)
                      have n2_ := Aside0.mk (Kd.V_elder' (by (with_reducible repeat (first | apply Kd.V_alloc | apply Kd.V_drewN | apply Kd.V_drew)); exact HO121.out) (Kd.N_base ho0) hb)
                      have n3_ := Aside0.mk (Kd.V_elder' (by (with_reducible repeat (first | apply Kd.V_alloc | apply Kd.V_drewN | apply Kd.V_drew)); exact HO127.out) (Kd.N_base ho0) hb)
                      have n4_ := Aside0.mk (Kd.N_lower (Kd.N_mono (ok' := fun k_ => k_ ≠ gb101 ∧ k_ ≠ gb102 ∧ k_ ≠ gb103 ∧ k_ ≠ gb116 ∧ k_ ≠ gb129) ho0 (fun k_ hk_ => ⟨(Kd.freshB (g := gb101) (o := .cells #[.slice A2_0 l2_0.length c2_0] 59 (0, 0)) (by (with_reducible repeat (first | refine blk_drewN ?_ _ | refine blk_drew ?_ | refine blk_alloc ?_ _)); exact BK101.out) k_ hk_), (Kd.freshB (g := gb102) (o := .cells #[.slice A1_0 l1_0.length c1_0] 59 (0, 0)) (by (with_reducible repeat (first | refine blk_drewN ?_ _ | refine blk_drew ?_ | refine blk_alloc ?_ _)); exact BK102.out) k_ hk_), (Kd.freshB (g := gb103) (o := .cells #[.string a0_0, .int .i64 a0_1, .slice A0_2 l0_2.length c0_2, .int .i64 a0_3, .string a0_4, .string a0_5, .slice A0_6 l0_6.length c0_6] 42 (0, 0)) (by (with_reducible repeat (first | refine blk_drewN ?_ _ | refine blk_drew ?_ | refine blk_alloc ?_ _)); exact BK103.out) k_ hk_), (Kd.freshB (g := gb116) (o := .cells #[.string t104, .int .i64 t105, .slice Ao97 t106.length co97, .int .i64 t109, .string t110, .string t111, .slice Ao98 t112.length co98] 42 (0, 0)) (by (with_reducible repeat (first | refine blk_drewN ?_ _ | refine blk_drew ?_ | refine blk_alloc ?_ _)); exact BK116.out) k_ hk_), (Kd.freshB (g := gb129) (o := .cells #[.string t117, .int .i64 t118, .slice Ao108 t119.length co108, .int .i64 t122, .string t123, .string t124, .slice Ao109 t125.length co109] 42 (0, 0)) (by (with_reducible repeat (first | refine blk_drewN ?_ _ | refine blk_drew ?_ | refine blk_alloc ?_ _)); exact BK129.out) k_ hk_)⟩)) (below_size (by repeat (first | (with_reducible first | exact HB.out | apply below_alloc | apply pw_below_drewN | apply below_drew1 | refine below_set ?_ GE101.out | refine below_set ?_ GE102.out | refine below_set ?_ GE103.out | refine below_set ?_ GE116.out | refine below_set ?_ GE129.out) | exact HB.out))))
                      have n5_ := Aside0.mk (blk_below (g := gb101) (o := .cells #[.slice A2_0 l2_0.length c2_0] 59 (0, 0)) (by (with_reducible repeat (first | refine blk_drewN ?_ _ | refine blk_drew ?_ | refine blk_alloc ?_ _)); exact BK101.out) hb)
                      have n6_ := Aside0.mk (blk_below (g := gb102) (o := .cells #[.slice A1_0 l1_0.length c1_0] 59 (0, 0)) (by (with_reducible repeat (first | refine blk_drewN ?_ _ | refine blk_drew ?_ | refine blk_alloc ?_ _)); exact BK102.out) hb)
                      have n7_ := Aside0.mk (blk_below (g := gb103) (o := .cells #[.string a0_0, .int .i64 a0_1, .slice A0_2 l0_2.length c0_2, .int .i64 a0_3, .string a0_4, .string a0_5, .slice A0_6 l0_6.length c0_6] 42 (0, 0)) (by (with_reducible repeat (first | refine blk_drewN ?_ _ | refine blk_drew ?_ | refine blk_alloc ?_ _)); exact BK103.out) hb)
                      have n8_ := Aside0.mk (blk_below (g := gb116) (o := .cells #[.string t104, .int .i64 t105, .slice Ao97 t106.length co97, .int .i64 t109, .string t110, .string t111, .slice Ao98 t112.length co98] 42 (0, 0)) (by (with_reducible repeat (first | refine blk_drewN ?_ _ | refine blk_drew ?_ | refine blk_alloc ?_ _)); exact BK116.out) hb)
                      have n9_ := Aside0.mk (blk_below (g := gb129) (o := .cells #[.string t117, .int .i64 t118, .slice Ao108 t119.length co108, .int .i64 t122, .string t123, .string t124, .slice Ao109 t125.length co109] 42 (0, 0)) (by (with_reducible repeat (first | refine blk_drewN ?_ _ | refine blk_drew ?_ | refine blk_alloc ?_ _)); exact BK129.out) hb)
                      have n10_ := Aside0.mk (below_step (by repeat (first | (with_reducible first | exact HB.out | apply below_alloc | apply pw_below_drewN | apply below_drew1 | refine below_set ?_ GE101.out | refine below_set ?_ GE102.out | refine below_set ?_ GE103.out | refine below_set ?_ GE116.out | refine below_set ?_ GE129.out) | exact HB.out)) hb)
                      clear HO108
                      clear HO114
                      clear HO121
                      clear HO127
                      clear BK101
                      clear BK102
                      clear BK103
                      clear BK116
                      clear BK129
                      clear HB
                      have HO108 := n0_
                      have HO114 := n1_
                      have HO121 := n2_
                      have HO127 := n3_
                      have HO138 := n4_
                      have BK101 := n5_
                      have BK102 := n6_
                      have BK103 := n7_
                      have BK116 := n8_
                      have BK129 := n9_
                      have HB := n10_
                      clear n0_ n1_ n2_ n3_ n4_ n5_ n6_ n7_ n8_ n9_ n10_
                      (try clear hb)
                      (try clear hb2)
                      (try clear hk)
                      (try clear hi)
                      (try clear ho0)
                      obtain ⟨Ao117, co117, eo117⟩ := Kd.N_slice HO138.out
                      (first | subst eo117 | (injection eo117 with f1_ f2_ f3_; have f4_ := f1_.symm; have f5_ := f3_.symm; clear f1_ f2_ f3_; subst f4_; subst f5_))
                      refine hK.out _ _ ⟨(blk_cell BK102.out 0).trans rfl, (blk_cell BK101.out 0).trans rfl, (blk_cell BK116.out 0).trans rfl, (blk_cell BK116.out 1).trans rfl, (blk_cell BK116.out 2).trans rfl, (blk_cell BK116.out 3).trans rfl, (blk_cell BK116.out 4).trans rfl, (blk_cell BK116.out 5).trans rfl, (blk_cell BK116.out 6).trans rfl, (blk_cell BK103.out 0).trans rfl, (blk_cell BK103.out 1).trans rfl, (blk_cell BK103.out 2).trans rfl, (blk_cell BK103.out 3).trans rfl, (blk_cell BK103.out 4).trans rfl, (blk_cell BK103.out 5).trans rfl, (blk_cell BK103.out 6).trans rfl⟩ (fun hHeld => ?_)
                      clear hK K
                      refine norm_ (a' := ?_) ?_ ?_
                      rotate_left
                      · show Act.put _ (some 73) _ = _
                        simp only [Act.put, List.setIfInBounds_toArray, List.set_cons_zero, List.set_cons_succ, i64_w, i32_w]
                        rfl
                      refine one_ (i := 35) (N := some 75) #[true, true, true, true, true, true, true, true, true, true, true, true, true, true, true, true, true, true, true, true, true, true, true, true, true, true, true, true, true, true, true, true, true, true, true, true, false, false, false, false, false, false, false, false, false, false, false, false] rfl rfl (one_of HT_.out (by kernel_rfl)) (by decide) (fun K hK => ?_)
                      refine goes_ Tryd.func65 (by kernel_rfl) rfl #[.agg #[.slice Ao117 t136.length co117], .agg #[.slice A1_0 l1_0.length c1_0]] (by rfl) rfl rfl (by (try simp only [List.map_toArray, List.map_cons, List.map_nil]); first | done | rfl | (simp only [List.length_drop, List.length_take]; rfl)) ?_
                      with_reducible refine (schema_Same.calls k _ _ t136 _ _ l1_0 true _ ?side1 ?side2 ?side3 ?side4 A80.out).mono ?_
                      (case side1 => repeat (first | exact (Kd.N_reads' HO138.out).2.2 | (with_reducible refine Kd.C_alloc ?_ _) | (with_reducible refine Kd.C_drewN ?_ _) | (with_reducible refine Kd.C_drew ?_)))
                      (case side2 => exact (Kd.N_reads' HO138.out).2.1)
                      (case side3 => repeat (first | exact (Kd.C_below HR1_0.out HB.out) | (with_reducible refine Kd.C_alloc ?_ _) | (with_reducible refine Kd.C_drewN ?_ _) | (with_reducible refine Kd.C_drew ?_)))
                      (case side4 => exact HC1_0.out)
                      rintro e w118 ⟨rfl, hb⟩
                      refine ⟨_, rfl, ?_⟩
                      have n0_ := Aside0.mk (Kd.V_below (by (with_reducible repeat (first | apply Kd.V_alloc | apply Kd.V_drewN | apply Kd.V_drew)); exact HO108.out) hb)
                      have n1_ := Aside0.mk (Kd.V_below (by (with_reducible repeat (first | apply Kd.V_alloc | apply Kd.V_drewN | apply Kd.V_drew)); exact HO114.out) hb)
                      have n2_ := Aside0.mk (Kd.V_below (by (with_reducible repeat (first | apply Kd.V_alloc | apply Kd.V_drewN | apply Kd.V_drew)); exact HO121.out) hb)
                      have n3_ := Aside0.mk (Kd.V_below (by (with_reducible repeat (first | apply Kd.V_alloc | apply Kd.V_drewN | apply Kd.V_drew)); exact HO127.out) hb)
                      have n4_ := Aside0.mk (Kd.N_below (by (with_reducible repeat (first | apply Kd.N_alloc | apply Kd.N_drewN | apply Kd.N_drew)); exact HO138.out) hb)
                      have n5_ := Aside0.mk (blk_below (g := gb101) (o := .cells #[.slice A2_0 l2_0.length c2_0] 59 (0, 0)) (by (with_reducible repeat (first | refine blk_drewN ?_ _ | refine blk_drew ?_ | refine blk_alloc ?_ _)); exact BK101.out) hb)
                      have n6_ := Aside0.mk (blk_below (g := gb102) (o := .cells #[.slice A1_0 l1_0.length c1_0] 59 (0, 0)) (by (with_reducible repeat (first | refine blk_drewN ?_ _ | refine blk_drew ?_ | refine blk_alloc ?_ _)); exact BK102.out) hb)
                      have n7_ := Aside0.mk (blk_below (g := gb103) (o := .cells #[.string a0_0, .int .i64 a0_1, .slice A0_2 l0_2.length c0_2, .int .i64 a0_3, .string a0_4, .string a0_5, .slice A0_6 l0_6.length c0_6] 42 (0, 0)) (by (with_reducible repeat (first | refine blk_drewN ?_ _ | refine blk_drew ?_ | refine blk_alloc ?_ _)); exact BK103.out) hb)
                      have n8_ := Aside0.mk (blk_below (g := gb116) (o := .cells #[.string t104, .int .i64 t105, .slice Ao97 t106.length co97, .int .i64 t109, .string t110, .string t111, .slice Ao98 t112.length co98] 42 (0, 0)) (by (with_reducible repeat (first | refine blk_drewN ?_ _ | refine blk_drew ?_ | refine blk_alloc ?_ _)); exact BK116.out) hb)
                      have n9_ := Aside0.mk (blk_below (g := gb129) (o := .cells #[.string t117, .int .i64 t118, .slice Ao108 t119.length co108, .int .i64 t122, .string t123, .string t124, .slice Ao109 t125.length co109] 42 (0, 0)) (by (with_reducible repeat (first | refine blk_drewN ?_ _ | refine blk_drew ?_ | refine blk_alloc ?_ _)); exact BK129.out) hb)
                      have n10_ := Aside0.mk (below_step (by repeat (first | (with_reducible first | exact HB.out | apply below_alloc | apply pw_below_drewN | apply below_drew1 | refine below_set ?_ GE101.out | refine below_set ?_ GE102.out | refine below_set ?_ GE103.out | refine below_set ?_ GE116.out | refine below_set ?_ GE129.out) | exact HB.out)) hb)
                      clear HO108
                      clear HO114
                      clear HO121
                      clear HO127
                      clear HO138
                      clear BK101
                      clear BK102
                      clear BK103
                      clear BK116
                      clear BK129
                      clear HB
                      have HO108 := n0_
                      have HO114 := n1_
                      have HO121 := n2_
                      have HO127 := n3_
                      have HO138 := n4_
                      have BK101 := n5_
                      have BK102 := n6_
                      have BK103 := n7_
                      have BK116 := n8_
                      have BK129 := n9_
                      have HB := n10_
                      clear n0_ n1_ n2_ n3_ n4_ n5_ n6_ n7_ n8_ n9_ n10_
                      (try clear hb)
                      (try clear hb2)
                      (try clear hk)
                      (try clear hi)
                      refine hK.out _ _ ⟨(blk_cell BK102.out 0).trans rfl, (blk_cell BK101.out 0).trans rfl, (blk_cell BK116.out 0).trans rfl, (blk_cell BK116.out 1).trans rfl, (blk_cell BK116.out 2).trans rfl, (blk_cell BK116.out 3).trans rfl, (blk_cell BK116.out 4).trans rfl, (blk_cell BK116.out 5).trans rfl, (blk_cell BK116.out 6).trans rfl, (blk_cell BK103.out 0).trans rfl, (blk_cell BK103.out 1).trans rfl, (blk_cell BK103.out 2).trans rfl, (blk_cell BK103.out 3).trans rfl, (blk_cell BK103.out 4).trans rfl, (blk_cell BK103.out 5).trans rfl, (blk_cell BK103.out 6).trans rfl⟩ (fun hHeld => ?_)
                      clear hK K
                      refine norm_ (a' := ?_) ?_ ?_
                      rotate_left
                      · show Act.put _ (some 75) _ = _
                        simp only [Act.put, List.setIfInBounds_toArray, List.set_cons_zero, List.set_cons_succ, i64_w, i32_w]
                        rfl
                      refine pure_ (i := 36) (N := some 76) (v := ?_) (a' := ?_) #[true, true, true, true, true, true, true, true, true, true, true, true, true, true, true, true, true, true, true, true, true, true, true, true, true, true, true, true, true, true, true, true, true, true, true, true, true, false, false, false, false, false, false, false, false, false, false, false] rfl rfl (any_of HT_.out (by kernel_rfl)) (fun _ _ _ h => h) (Or.inl ⟨by rfl, ?_⟩) ?_ ?_
                      rotate_left
                      · intro w'
                        go_simp
                        with_reducible rfl
                      rotate_left
                      · simp only [Act.put, List.setIfInBounds_toArray, List.set_cons_zero, List.set_cons_succ, i64_w, i32_w]
                        rfl
                      refine pure_ (i := 37) (N := some 77) (v := ?_) (a' := ?_) #[true, true, true, true, true, true, true, true, true, true, true, true, true, true, true, true, true, true, true, true, true, true, true, true, true, true, true, true, true, true, true, true, true, true, true, true, true, true, false, false, false, false, false, false, false, false, false, false] rfl rfl (any_of HT_.out (by kernel_rfl)) (fun _ _ _ h => h) (Or.inl ⟨by rfl, ?_⟩) ?_ ?_
                      rotate_left
                      · intro w'
                        go_simp
                        with_reducible rfl
                      rotate_left
                      · simp only [Act.put, List.setIfInBounds_toArray, List.set_cons_zero, List.set_cons_succ, i64_w, i32_w]
                        rfl
                      refine take_ (i := 38) (N := some 78) (v := ?_) (a' := ?_) #[true, true, true, true, true, true, true, true, true, true, true, true, true, true, true, true, true, true, true, true, true, true, true, true, true, true, true, true, true, true, true, true, true, true, true, true, true, true, true, false, false, false, false, false, false, false, false, false] rfl rfl (take_ofW HT_.out HW_.out (by kernel_rfl)) (fun _ _ _ h => h) (Or.inl ⟨by rfl, ?_⟩) hHeld ?_ ?_
                      rotate_left
                      · rintro w' ⟨s0, s1, s2, s3, s4, s5, s6, s7, s8, s9, s10, s11, s12, s13, s14, s15⟩
                        go_simp
                        with_reducible rfl
                      rotate_left
                      · simp only [Act.put, List.setIfInBounds_toArray, List.set_cons_zero, List.set_cons_succ, i64_w, i32_w]
                        rfl
                      refine one_ (i := 39) (N := some 79) #[true, true, true, true, true, true, true, true, true, true, true, true, true, true, true, true, true, true, true, true, true, true, true, true, true, true, true, true, true, true, true, true, true, true, true, true, true, true, true, true, false, false, false, false, false, false, false, false] rfl rfl (one_of HT_.out (by kernel_rfl)) (by decide) (fun K hK => ?_)
                      refine goes_ Tryd.func67 (by kernel_rfl) rfl #[.agg #[.slice A1_0 l1_0.length c1_0]] (by rfl) rfl rfl (by (try simp only [List.map_toArray, List.map_cons, List.map_nil]); first | done | rfl | (simp only [List.length_drop, List.length_take]; rfl)) ?_
                      with_reducible refine (schema_Members.calls _ _ l1_0 true _ ?side1 ?side2 A82.out).mono ?_
                      (case side1 => repeat (first | exact (Kd.C_below HR1_0.out HB.out) | (with_reducible refine Kd.C_alloc ?_ _) | (with_reducible refine Kd.C_drewN ?_ _) | (with_reducible refine Kd.C_drew ?_)))
                      (case side2 => exact HC1_0.out)
                      rintro e w119 ⟨rfl, hb⟩
                      refine ⟨_, rfl, ?_⟩
                      have n0_ := Aside0.mk (Kd.V_below (by (with_reducible repeat (first | apply Kd.V_alloc | apply Kd.V_drewN | apply Kd.V_drew)); exact HO108.out) hb)
                      have n1_ := Aside0.mk (Kd.V_below (by (with_reducible repeat (first | apply Kd.V_alloc | apply Kd.V_drewN | apply Kd.V_drew)); exact HO114.out) hb)
                      have n2_ := Aside0.mk (Kd.V_below (by (with_reducible repeat (first | apply Kd.V_alloc | apply Kd.V_drewN | apply Kd.V_drew)); exact HO121.out) hb)
                      have n3_ := Aside0.mk (Kd.V_below (by (with_reducible repeat (first | apply Kd.V_alloc | apply Kd.V_drewN | apply Kd.V_drew)); exact HO127.out) hb)
                      have n4_ := Aside0.mk (Kd.N_below (by (with_reducible repeat (first | apply Kd.N_alloc | apply Kd.N_drewN | apply Kd.N_drew)); exact HO138.out) hb)
                      have n5_ := Aside0.mk (blk_below (g := gb101) (o := .cells #[.slice A2_0 l2_0.length c2_0] 59 (0, 0)) (by (with_reducible repeat (first | refine blk_drewN ?_ _ | refine blk_drew ?_ | refine blk_alloc ?_ _)); exact BK101.out) hb)
                      have n6_ := Aside0.mk (blk_below (g := gb102) (o := .cells #[.slice A1_0 l1_0.length c1_0] 59 (0, 0)) (by (with_reducible repeat (first | refine blk_drewN ?_ _ | refine blk_drew ?_ | refine blk_alloc ?_ _)); exact BK102.out) hb)
                      have n7_ := Aside0.mk (blk_below (g := gb103) (o := .cells #[.string a0_0, .int .i64 a0_1, .slice A0_2 l0_2.length c0_2, .int .i64 a0_3, .string a0_4, .string a0_5, .slice A0_6 l0_6.length c0_6] 42 (0, 0)) (by (with_reducible repeat (first | refine blk_drewN ?_ _ | refine blk_drew ?_ | refine blk_alloc ?_ _)); exact BK103.out) hb)
                      have n8_ := Aside0.mk (blk_below (g := gb116) (o := .cells #[.string t104, .int .i64 t105, .slice Ao97 t106.length co97, .int .i64 t109, .string t110, .string t111, .slice Ao98 t112.length co98] 42 (0, 0)) (by (with_reducible repeat (first | refine blk_drewN ?_ _ | refine blk_drew ?_ | refine blk_alloc ?_ _)); exact BK116.out) hb)
                      have n9_ := Aside0.mk (blk_below (g := gb129) (o := .cells #[.string t117, .int .i64 t118, .slice Ao108 t119.length co108, .int .i64 t122, .string t123, .string t124, .slice Ao109 t125.length co109] 42 (0, 0)) (by (with_reducible repeat (first | refine blk_drewN ?_ _ | refine blk_drew ?_ | refine blk_alloc ?_ _)); exact BK129.out) hb)
                      have n10_ := Aside0.mk (below_step (by repeat (first | (with_reducible first | exact HB.out | apply below_alloc | apply pw_below_drewN | apply below_drew1 | refine below_set ?_ GE101.out | refine below_set ?_ GE102.out | refine below_set ?_ GE103.out | refine below_set ?_ GE116.out | refine below_set ?_ GE129.out) | exact HB.out)) hb)
                      clear HO108
                      clear HO114
                      clear HO121
                      clear HO127
                      clear HO138
                      clear BK101
                      clear BK102
                      clear BK103
                      clear BK116
                      clear BK129
                      clear HB
                      have HO108 := n0_
                      have HO114 := n1_
                      have HO121 := n2_
                      have HO127 := n3_
                      have HO138 := n4_
                      have BK101 := n5_
                      have BK102 := n6_
                      have BK103 := n7_
                      have BK116 := n8_
                      have BK129 := n9_
                      have HB := n10_
                      clear n0_ n1_ n2_ n3_ n4_ n5_ n6_ n7_ n8_ n9_ n10_
                      (try clear hb)
                      (try clear hb2)
                      (try clear hk)
                      (try clear hi)
                      refine hK.out _ _ ⟨(blk_cell BK102.out 0).trans rfl, (blk_cell BK101.out 0).trans rfl, (blk_cell BK116.out 0).trans rfl, (blk_cell BK116.out 1).trans rfl, (blk_cell BK116.out 2).trans rfl, (blk_cell BK116.out 3).trans rfl, (blk_cell BK116.out 4).trans rfl, (blk_cell BK116.out 5).trans rfl, (blk_cell BK116.out 6).trans rfl, (blk_cell BK103.out 0).trans rfl, (blk_cell BK103.out 1).trans rfl, (blk_cell BK103.out 2).trans rfl, (blk_cell BK103.out 3).trans rfl, (blk_cell BK103.out 4).trans rfl, (blk_cell BK103.out 5).trans rfl, (blk_cell BK103.out 6).trans rfl⟩ (fun hHeld => ?_)
                      clear hK K
                      refine norm_ (a' := ?_) ?_ ?_
                      rotate_left
                      · show Act.put _ (some 79) _ = _
                        simp only [Act.put, List.setIfInBounds_toArray, List.set_cons_zero, List.set_cons_succ, i64_w, i32_w]
                        rfl
                      refine pure_ (i := 40) (N := some 80) (v := ?_) (a' := ?_) #[true, true, true, true, true, true, true, true, true, true, true, true, true, true, true, true, true, true, true, true, true, true, true, true, true, true, true, true, true, true, true, true, true, true, true, true, true, true, true, true, true, false, false, false, false, false, false, false] rfl rfl (any_of HT_.out (by kernel_rfl)) (fun _ _ _ h => h) (Or.inl ⟨by rfl, ?_⟩) ?_ ?_
                      rotate_left
                      · intro w'
                        go_simp
                        with_reducible rfl
                      rotate_left
                      · simp only [Act.put, List.setIfInBounds_toArray, List.set_cons_zero, List.set_cons_succ, i64_w, i32_w]
                        rfl
                      refine pure_ (i := 41) (N := some 81) (v := ?_) (a' := ?_) #[true, true, true, true, true, true, true, true, true, true, true, true, true, true, true, true, true, true, true, true, true, true, true, true, true, true, true, true, true, true, true, true, true, true, true, true, true, true, true, true, true, true, false, false, false, false, false, false] rfl rfl (any_of HT_.out (by kernel_rfl)) (fun _ _ _ h => h) (Or.inl ⟨by rfl, ?_⟩) ?_ ?_
                      rotate_left
                      · intro w'
                        go_simp
                        with_reducible rfl
                      rotate_left
                      · simp only [Act.put, List.setIfInBounds_toArray, List.set_cons_zero, List.set_cons_succ, i64_w, i32_w]
                        rfl
                      refine pure_ (i := 42) (N := some 82) (v := ?_) (a' := ?_) #[true, true, true, true, true, true, true, true, true, true, true, true, true, true, true, true, true, true, true, true, true, true, true, true, true, true, true, true, true, true, true, true, true, true, true, true, true, true, true, true, true, true, true, false, false, false, false, false] rfl rfl (any_of HT_.out (by kernel_rfl)) (fun _ _ _ h => h) (Or.inl ⟨by rfl, ?_⟩) ?_ ?_
                      rotate_left
                      · intro w'
                        go_simp
                        with_reducible rfl
                      rotate_left
                      · simp only [Act.put, List.setIfInBounds_toArray, List.set_cons_zero, List.set_cons_succ, i64_w, i32_w]
                        rfl
                      refine pure_ (i := 44) (N := some 84) (v := ?_) (a' := ?_) #[true, true, true, true, true, true, true, true, true, true, true, true, true, true, true, true, true, true, true, true, true, true, true, true, true, true, true, true, true, true, true, true, true, true, true, true, true, true, true, true, true, true, true, false, true, false, false, false] rfl rfl (any_of HT_.out (by kernel_rfl)) (fun _ _ _ h => h) (Or.inl ⟨by rfl, ?_⟩) ?_ ?_
                      rotate_left
                      · intro w'
                        go_simp
                        with_reducible rfl
                      rotate_left
                      · simp only [Act.put, List.setIfInBounds_toArray, List.set_cons_zero, List.set_cons_succ, i64_w, i32_w]
                        rfl
                      refine take_ (i := 43) (N := some 83) (v := ?_) (a' := ?_) #[true, true, true, true, true, true, true, true, true, true, true, true, true, true, true, true, true, true, true, true, true, true, true, true, true, true, true, true, true, true, true, true, true, true, true, true, true, true, true, true, true, true, true, true, true, false, false, false] rfl rfl (take_ofW HT_.out HW_.out (by kernel_rfl)) (fun _ _ _ h => h) (Or.inl ⟨by rfl, ?_⟩) hHeld ?_ ?_
                      rotate_left
                      · rintro w' ⟨s0, s1, s2, s3, s4, s5, s6, s7, s8, s9, s10, s11, s12, s13, s14, s15⟩
                        go_simp
                        with_reducible rfl
                      rotate_left
                      · simp only [Act.put, List.setIfInBounds_toArray, List.set_cons_zero, List.set_cons_succ, i64_w, i32_w]
                        rfl
                      refine one_ (i := 45) (N := some 85) #[true, true, true, true, true, true, true, true, true, true, true, true, true, true, true, true, true, true, true, true, true, true, true, true, true, true, true, true, true, true, true, true, true, true, true, true, true, true, true, true, true, true, true, true, true, true, false, false] rfl rfl (one_of HT_.out (by kernel_rfl)) (by decide) (fun K hK => ?_)
                      refine goes_ Tryd.func33 (by kernel_rfl) rfl #[.agg #[.string a0_0, .int .i64 a0_1, .slice A0_2 l0_2.length c0_2, .int .i64 a0_3, .string a0_4, .string a0_5, .slice A0_6 l0_6.length c0_6], .agg #[.string (⟨#[117, 115, 101, 114]⟩ : ByteArray), .string (⟨#[]⟩ : ByteArray)]] (by rfl) rfl rfl (by (try simp only [List.map_toArray, List.map_cons, List.map_nil]); first | done | rfl | (simp only [List.length_drop, List.length_take]; rfl)) ?_
                      with_reducible refine (schema_Allows.calls k a0_0 a0_1 _ _ l0_2 a0_3 a0_4 a0_5 _ _ l0_6 (⟨#[117, 115, 101, 114]⟩ : ByteArray) (⟨#[]⟩ : ByteArray) t141 _ ?side1 ?side2 ?side3 ?side4 A84.out).mono ?_
                      (case side1 => repeat (first | exact (Kd.C_below HR0_2.out HB.out) | (with_reducible refine Kd.C_alloc ?_ _) | (with_reducible refine Kd.C_drewN ?_ _) | (with_reducible refine Kd.C_drew ?_)))
                      (case side2 => exact HC0_2.out)
                      (case side3 => repeat (first | exact (Kd.C_below HR0_6.out HB.out) | (with_reducible refine Kd.C_alloc ?_ _) | (with_reducible refine Kd.C_drewN ?_ _) | (with_reducible refine Kd.C_drew ?_)))
                      (case side4 => exact HC0_6.out)
                      rintro e w120 ⟨rfl, hb⟩
                      refine ⟨_, rfl, ?_⟩
                      have n0_ := Aside0.mk (Kd.V_below (by (with_reducible repeat (first | apply Kd.V_alloc | apply Kd.V_drewN | apply Kd.V_drew)); exact HO108.out) hb)
                      have n1_ := Aside0.mk (Kd.V_below (by (with_reducible repeat (first | apply Kd.V_alloc | apply Kd.V_drewN | apply Kd.V_drew)); exact HO114.out) hb)
                      have n2_ := Aside0.mk (Kd.V_below (by (with_reducible repeat (first | apply Kd.V_alloc | apply Kd.V_drewN | apply Kd.V_drew)); exact HO121.out) hb)
                      have n3_ := Aside0.mk (Kd.V_below (by (with_reducible repeat (first | apply Kd.V_alloc | apply Kd.V_drewN | apply Kd.V_drew)); exact HO127.out) hb)
                      have n4_ := Aside0.mk (Kd.N_below (by (with_reducible repeat (first | apply Kd.N_alloc | apply Kd.N_drewN | apply Kd.N_drew)); exact HO138.out) hb)
                      have n5_ := Aside0.mk (blk_below (g := gb101) (o := .cells #[.slice A2_0 l2_0.length c2_0] 59 (0, 0)) (by (with_reducible repeat (first | refine blk_drewN ?_ _ | refine blk_drew ?_ | refine blk_alloc ?_ _)); exact BK101.out) hb)
                      have n6_ := Aside0.mk (blk_below (g := gb102) (o := .cells #[.slice A1_0 l1_0.length c1_0] 59 (0, 0)) (by (with_reducible repeat (first | refine blk_drewN ?_ _ | refine blk_drew ?_ | refine blk_alloc ?_ _)); exact BK102.out) hb)
                      have n7_ := Aside0.mk (blk_below (g := gb103) (o := .cells #[.string a0_0, .int .i64 a0_1, .slice A0_2 l0_2.length c0_2, .int .i64 a0_3, .string a0_4, .string a0_5, .slice A0_6 l0_6.length c0_6] 42 (0, 0)) (by (with_reducible repeat (first | refine blk_drewN ?_ _ | refine blk_drew ?_ | refine blk_alloc ?_ _)); exact BK103.out) hb)
                      have n8_ := Aside0.mk (blk_below (g := gb116) (o := .cells #[.string t104, .int .i64 t105, .slice Ao97 t106.length co97, .int .i64 t109, .string t110, .string t111, .slice Ao98 t112.length co98] 42 (0, 0)) (by (with_reducible repeat (first | refine blk_drewN ?_ _ | refine blk_drew ?_ | refine blk_alloc ?_ _)); exact BK116.out) hb)
                      have n9_ := Aside0.mk (blk_below (g := gb129) (o := .cells #[.string t117, .int .i64 t118, .slice Ao108 t119.length co108, .int .i64 t122, .string t123, .string t124, .slice Ao109 t125.length co109] 42 (0, 0)) (by (with_reducible repeat (first | refine blk_drewN ?_ _ | refine blk_drew ?_ | refine blk_alloc ?_ _)); exact BK129.out) hb)
                      have n10_ := Aside0.mk (below_step (by repeat (first | (with_reducible first | exact HB.out | apply below_alloc | apply pw_below_drewN | apply below_drew1 | refine below_set ?_ GE101.out | refine below_set ?_ GE102.out | refine below_set ?_ GE103.out | refine below_set ?_ GE116.out | refine below_set ?_ GE129.out) | exact HB.out)) hb)
                      clear HO108
                      clear HO114
                      clear HO121
                      clear HO127
                      clear HO138
                      clear BK101
                      clear BK102
                      clear BK103
                      clear BK116
                      clear BK129
                      clear HB
                      have HO108 := n0_
                      have HO114 := n1_
                      have HO121 := n2_
                      have HO127 := n3_
                      have HO138 := n4_
                      have BK101 := n5_
                      have BK102 := n6_
                      have BK103 := n7_
                      have BK116 := n8_
                      have BK129 := n9_
                      have HB := n10_
                      clear n0_ n1_ n2_ n3_ n4_ n5_ n6_ n7_ n8_ n9_ n10_
                      (try clear hb)
                      (try clear hb2)
                      (try clear hk)
                      (try clear hi)
                      refine hK.out _ _ ⟨(blk_cell BK102.out 0).trans rfl, (blk_cell BK101.out 0).trans rfl, (blk_cell BK116.out 0).trans rfl, (blk_cell BK116.out 1).trans rfl, (blk_cell BK116.out 2).trans rfl, (blk_cell BK116.out 3).trans rfl, (blk_cell BK116.out 4).trans rfl, (blk_cell BK116.out 5).trans rfl, (blk_cell BK116.out 6).trans rfl, (blk_cell BK103.out 0).trans rfl, (blk_cell BK103.out 1).trans rfl, (blk_cell BK103.out 2).trans rfl, (blk_cell BK103.out 3).trans rfl, (blk_cell BK103.out 4).trans rfl, (blk_cell BK103.out 5).trans rfl, (blk_cell BK103.out 6).trans rfl⟩ (fun hHeld => ?_)
                      clear hK K
                      refine norm_ (a' := ?_) ?_ ?_
                      rotate_left
                      · show Act.put _ (some 85) _ = _
                        simp only [Act.put, List.setIfInBounds_toArray, List.set_cons_zero, List.set_cons_succ, i64_w, i32_w]
                        rfl
                      refine pure_ (i := 46) (N := some 86) (v := ?_) (a' := ?_) #[true, true, true, true, true, true, true, true, true, true, true, true, true, true, true, true, true, true, true, true, true, true, true, true, true, true, true, true, true, true, true, true, true, true, true, true, true, true, true, true, true, true, true, true, true, true, true, false] rfl rfl (any_of HT_.out (by kernel_rfl)) (fun _ _ _ h => h) (Or.inl ⟨by rfl, ?_⟩) ?_ ?_
                      rotate_left
                      · intro w'
                        go_simp
                        with_reducible rfl
                      rotate_left
                      · simp only [Act.put, List.setIfInBounds_toArray, List.set_cons_zero, List.set_cons_succ, i64_w, i32_w]
                        rfl
                      refine pure_ (i := 47) (N := some 0) (v := ?_) (a' := ?_) #[true, true, true, true, true, true, true, true, true, true, true, true, true, true, true, true, true, true, true, true, true, true, true, true, true, true, true, true, true, true, true, true, true, true, true, true, true, true, true, true, true, true, true, true, true, true, true, true] rfl rfl (any_of HT_.out (by kernel_rfl)) (fun _ _ _ h => h) (Or.inl ⟨by rfl, ?_⟩) ?_ ?_
                      rotate_left
                      · intro w'
                        go_simp
                        with_reducible rfl
                      rotate_left
                      · simp only [Act.put, List.setIfInBounds_toArray, List.set_cons_zero, List.set_cons_succ, i64_w, i32_w]
                        rfl
                      refine done_ (done_of HT_.out (by kernel_rfl)) ?_
                      try go_wp2
                      go_ret
                      exact ⟨(show Ending.returned (.bool t141) = .returned (.bool true) by rw [HRES.out]), HBW.out.trans ((show Below wt.heap.size wt _ from by repeat (first | (with_reducible first | exact HB.out | apply below_alloc | apply pw_below_drewN | apply below_drew1 | refine below_set ?_ GE101.out | refine below_set ?_ GE102.out | refine below_set ?_ GE103.out | refine below_set ?_ GE116.out | refine below_set ?_ GE129.out) | exact HB.out)).mono (below_size HBW.out))⟩
                    · exact absurd (ite_yes H) c83
                  · exact absurd (ite_yes H) c81
                · exact absurd (ite_yes H) c78
              · exact absurd (ite_yes H) c77
            · exact absurd (ite_yes H) c76
        · exact absurd (ite_yes H) c43
      · exact absurd (ite_yes H) c41
  · exact absurd (ite_yes H) c8
end Go.Proofs.YtigghbfcflnoeaaDoor.Y
end
section
namespace Go.Proofs.YtigghbfcflnoeaaDoor.Y
open Go.RowKit Go.Proofs.YtigghbfcflnoeaaDoorW.PrintWords Go.Proofs.YtigghbfcflnoeaaDoorW.PrintLast Go.Proofs.YtigghbfcflnoeaaDoorW.PrintMore
attribute [local go_sem] max2_int min2_int max_two min_two max_three min_three max_four min_four
set_option linter.unusedVariables false
set_option linter.unusedSimpArgs false
def vestrylaw11_awake.f (k : Nat) : Option (Bool) := (awk11t.f k ⟨#[97]⟩ 1 [tyU] 0 eB eB [] [dA] [dB]).bind fun b => if b = true then some true else none
theorem vestrylaw11_awake.mono : ∀ k, LeO (vestrylaw11_awake.f k) (vestrylaw11_awake.f (k + 1)) := fun k => LeO.bind (awk11t.mono _ _ _ _ _ _ _ _ _ k) (fun _ => LeO.refl _)
theorem vestrylaw11_awake.calls (k : Nat) (r : Bool) (w : World) (hL : Laid w) (h : vestrylaw11_awake.f k = some r) :
    Calls Tryd.prog 32 #[] w fun e w' => e = .returned (.bool r) ∧ Below w.heap.size w w' := by
  obtain ⟨b, hb, h⟩ := Option.bind_eq_some_iff.1 h
  cases b with
  | true =>
    obtain rfl := Option.some.inj h
    exact awake11.calls k w hL hb
  | false => cases h
end Go.Proofs.YtigghbfcflnoeaaDoor.Y
end
section
namespace Go.Proofs.YtigghbfcflnoeaaDoor.Y
open Go.RowKit Go.Proofs.YtigghbfcflnoeaaDoorW.PrintWords Go.Proofs.YtigghbfcflnoeaaDoorW.PrintLast Go.Proofs.YtigghbfcflnoeaaDoorW.PrintMore
attribute [local go_sem] max2_int min2_int max_two min_two max_three min_three max_four min_four
set_option linter.unusedVariables false
set_option linter.unusedSimpArgs false
attribute [local go_sem high] eqA44
mutual
def vestrylaw11_SchemaAllows.j0 : Nat → Bool → ByteArray → Int → List (S44) → Int → ByteArray → ByteArray → List (S24) → ByteArray → ByteArray → Option (Bool)
  | 0, _, _, _, _, _, _, _, _, _, _ => none
  | k + 1, x14, x102000, x102001, x102002, x102003, x102004, x102005, x102006, x103000, x103001 => if x14 = true then ((vestrylaw11_awake.f k).bind fun t104 => (some t104)) else (vestrylaw11_SchemaAllows.l0 k false 0 x102000 x102001 x102002 x102003 x102004 x102005 x102006 x103000 x103001)
def vestrylaw11_SchemaAllows.l0 : Nat → Bool → Int → ByteArray → Int → List (S44) → Int → ByteArray → ByteArray → List (S24) → ByteArray → ByteArray → Option (Bool)
  | 0, _, _, _, _, _, _, _, _, _, _, _ => none
  | k + 1, x5, x6, x102000, x102001, x102002, x102003, x102004, x102005, x102006, x103000, x103001 => if x6 < (x102002.length : Int) then (if x5 = true then (vestrylaw11_SchemaAllows.l0 k true (wrap64 (x6 + 1)) x102000 x102001 x102002 x102003 x102004 x102005 x102006 x103000 x103001) else (if 0 ≤ x6 then (vestrylaw11_SchemaAllows.l0 k ((((rd_T44 x102002 x6).f0).toList) == x103000.toList && ((((rd_T44 x102002 x6).f1).toList) == x103001.toList)) (wrap64 (x6 + 1)) x102000 x102001 x102002 x102003 x102004 x102005 x102006 x103000 x103001) else (none))) else ((schema_Allows.f k x102000 x102001 x102002 x102003 x102004 x102005 x102006 x103000 x103001).bind fun t106 => (if x5 = true then (some (t106 == (x102001 == 1))) else (some (t106 == false))))
end
def vestrylaw11_SchemaAllows.f (k : Nat) (a0_0 : ByteArray) (a0_1 : Int) (l0_2 : List (S44)) (a0_3 : Int) (a0_4 : ByteArray) (a0_5 : ByteArray) (l0_6 : List (S24)) (a1_0 : ByteArray) (a1_1 : ByteArray) : Option (Bool) := (vestrylaw11_awake.f k).bind fun t103 => (if t103 = true then (vestrylaw11_SchemaAllows.j0 k (decide ((l0_2.length : Int) > 100)) a0_0 a0_1 l0_2 a0_3 a0_4 a0_5 l0_6 a1_0 a1_1) else (vestrylaw11_SchemaAllows.j0 k true a0_0 a0_1 l0_2 a0_3 a0_4 a0_5 l0_6 a1_0 a1_1))
theorem vestrylaw11_SchemaAllows.mono_l : ∀ k, (∀ y0 y1 y2 y3 y4 y5 y6 y7 y8 y9, LeO (vestrylaw11_SchemaAllows.j0 k y0 y1 y2 y3 y4 y5 y6 y7 y8 y9) (vestrylaw11_SchemaAllows.j0 (k + 1) y0 y1 y2 y3 y4 y5 y6 y7 y8 y9)) ∧ (∀ y0 y1 y2 y3 y4 y5 y6 y7 y8 y9 y10, LeO (vestrylaw11_SchemaAllows.l0 k y0 y1 y2 y3 y4 y5 y6 y7 y8 y9 y10) (vestrylaw11_SchemaAllows.l0 (k + 1) y0 y1 y2 y3 y4 y5 y6 y7 y8 y9 y10))
  | 0 => ⟨fun _ _ _ _ _ _ _ _ _ _ r h => by simp [vestrylaw11_SchemaAllows.j0] at h, fun _ _ _ _ _ _ _ _ _ _ _ r h => by simp [vestrylaw11_SchemaAllows.l0] at h⟩
  | k + 1 => by
    obtain ⟨ih0, ih1⟩ := vestrylaw11_SchemaAllows.mono_l k
    refine ⟨?_, ?_⟩
    · intro y0 y1 y2 y3 y4 y5 y6 y7 y8 y9
      unfold vestrylaw11_SchemaAllows.j0
      repeat' first
      | (with_reducible exact ih0 _ _ _ _ _ _ _ _ _ _)
      | (with_reducible exact ih1 _ _ _ _ _ _ _ _ _ _ _)
      | (with_reducible exact schema_Allows.mono _ _ _ _ _ _ _ _ _ _)
      | (with_reducible exact vestrylaw11_awake.mono _)
      | (with_reducible exact LeO.refl _)
      | (with_reducible exact LeO.none _)
      | (with_reducible refine LeO.ite ?_ ?_)
      | (with_reducible refine LeO.bind ?_ (fun _ => ?_))
      | exact ih0 _ _ _ _ _ _ _ _ _ _
      | exact ih1 _ _ _ _ _ _ _ _ _ _ _
      | exact schema_Allows.mono _ _ _ _ _ _ _ _ _ _
      | exact vestrylaw11_awake.mono _
      | exact LeO.none _
      | refine LeO.ite ?_ ?_
      | refine LeO.bind ?_ (fun _ => ?_)
    · intro y0 y1 y2 y3 y4 y5 y6 y7 y8 y9 y10
      unfold vestrylaw11_SchemaAllows.l0
      repeat' first
      | (with_reducible exact ih0 _ _ _ _ _ _ _ _ _ _)
      | (with_reducible exact ih1 _ _ _ _ _ _ _ _ _ _ _)
      | (with_reducible exact schema_Allows.mono _ _ _ _ _ _ _ _ _ _)
      | (with_reducible exact vestrylaw11_awake.mono _)
      | (with_reducible exact LeO.refl _)
      | (with_reducible exact LeO.none _)
      | (with_reducible refine LeO.ite ?_ ?_)
      | (with_reducible refine LeO.bind ?_ (fun _ => ?_))
      | exact ih0 _ _ _ _ _ _ _ _ _ _
      | exact ih1 _ _ _ _ _ _ _ _ _ _ _
      | exact schema_Allows.mono _ _ _ _ _ _ _ _ _ _
      | exact vestrylaw11_awake.mono _
      | exact LeO.none _
      | refine LeO.ite ?_ ?_
      | refine LeO.bind ?_ (fun _ => ?_)
theorem vestrylaw11_SchemaAllows.mono : ∀ a0 a1 a2 a3 a4 a5 a6 a7 a8 k, LeO (vestrylaw11_SchemaAllows.f k a0 a1 a2 a3 a4 a5 a6 a7 a8) (vestrylaw11_SchemaAllows.f (k + 1) a0 a1 a2 a3 a4 a5 a6 a7 a8) := by
  intro a0 a1 a2 a3 a4 a5 a6 a7 a8 k
  obtain ⟨ih0, ih1⟩ := vestrylaw11_SchemaAllows.mono_l k
  unfold vestrylaw11_SchemaAllows.f
  repeat' first
      | (with_reducible exact ih0 _ _ _ _ _ _ _ _ _ _)
      | (with_reducible exact ih1 _ _ _ _ _ _ _ _ _ _ _)
      | (with_reducible exact schema_Allows.mono _ _ _ _ _ _ _ _ _ _)
      | (with_reducible exact vestrylaw11_awake.mono _)
      | (with_reducible exact LeO.refl _)
      | (with_reducible exact LeO.none _)
      | (with_reducible refine LeO.ite ?_ ?_)
      | (with_reducible refine LeO.bind ?_ (fun _ => ?_))
      | exact ih0 _ _ _ _ _ _ _ _ _ _
      | exact ih1 _ _ _ _ _ _ _ _ _ _ _
      | exact schema_Allows.mono _ _ _ _ _ _ _ _ _ _
      | exact vestrylaw11_awake.mono _
      | exact LeO.none _
      | refine LeO.ite ?_ ?_
      | refine LeO.bind ?_ (fun _ => ?_)
set_option maxHeartbeats 8000000 in
set_option maxRecDepth 100000 in
theorem vestrylaw11_SchemaAllows.calls (k : Nat) (a0_0 : ByteArray) (a0_1 : Int) (A0_2 : Option Addr) (c0_2 : Nat) (l0_2 : List (S44)) (a0_3 : Int) (a0_4 : ByteArray) (a0_5 : ByteArray) (A0_6 : Option Addr) (c0_6 : Nat) (l0_6 : List (S24)) (a1_0 : ByteArray) (a1_1 : ByteArray) (r : Bool) (w : World) (hL : Laid w) (hr0_2 : Kd.C k44 w A0_2 l0_2.length l0_2) (hc0_2 : l0_2.length ≤ c0_2) (hr0_6 : Kd.C k24 w A0_6 l0_6.length l0_6) (hc0_6 : l0_6.length ≤ c0_6) (h : vestrylaw11_SchemaAllows.f k a0_0 a0_1 l0_2 a0_3 a0_4 a0_5 l0_6 a1_0 a1_1 = some r) :
    Calls Tryd.prog 8 #[.agg #[.string a0_0, .int .i64 a0_1, .slice A0_2 l0_2.length c0_2, .int .i64 a0_3, .string a0_4, .string a0_5, .slice A0_6 l0_6.length c0_6], .agg #[.string a1_0, .string a1_1]] w fun e w' => e = .returned (.bool r) ∧ Below w.heap.size w w' := by
  have HL := Aside0.mk hL
  clear hL
  have hu42 := Tryd.underlying42
  have hu44 := Tryd.underlying44
  have HR0_2 := Aside0.mk hr0_2
  have HC0_2 := Aside0.mk hc0_2
  clear hr0_2 hc0_2
  have HR0_6 := Aside0.mk hr0_6
  have HC0_6 := Aside0.mk hc0_6
  clear hr0_6 hc0_6
  have HB := Aside0.mk (Below.refl w.heap.size w)
  have H : ((vestrylaw11_awake.f k).bind fun t103 => (if t103 = true then (vestrylaw11_SchemaAllows.j0 k (decide ((l0_2.length : Int) > 100)) a0_0 a0_1 l0_2 a0_3 a0_4 a0_5 l0_6 a1_0 a1_1) else (vestrylaw11_SchemaAllows.j0 k true a0_0 a0_1 l0_2 a0_3 a0_4 a0_5 l0_6 a1_0 a1_1))) = some r := h
  clear h
  have HC3 := Aside0.mk H
  clear H
  go_enter Tryd.func8, Tryd.ntmps8
  go_upto_region 1 with (first | ((with_reducible refine gate_dst (N := 2) rfl ?_); (try (refine gate_guard (by rfl) ?_; dsimp only)); refine box_event ?hg (N := 2) ?hd (cs := #[.string a0_0, .int .i64 a0_1, .slice A0_2 l0_2.length c0_2, .int .i64 a0_3, .string a0_4, .string a0_5, .slice A0_6 l0_6.length c0_6]) (t := 42) ?hr ?_; (case hd => rfl); (case hg => rfl); (case hr => first | (go_simp; done) | (go_simp; rfl)); intro gb101 hg w4 hbox hb; have n0_ := Aside0.mk (below_step (by repeat (first | (with_reducible first | exact HB.out | apply below_alloc | apply pw_below_drewN | apply below_drew1) | exact HB.out)) hb); have n1_ := Aside0.mk (hbox); have n2_ := Aside0.mk ((by rw [hg]; exact (below_size (by repeat (first | (with_reducible first | exact HB.out | apply below_alloc | apply pw_below_drewN | apply below_drew1) | exact HB.out))) : w.heap.size ≤ gb101)); have n3_ := Aside0.mk ((by rw [hg]; exact (below_size (by repeat (first | (with_reducible first | exact HB.out | apply below_alloc | apply pw_below_drewN | apply below_drew1) | exact HB.out))) : w.heap.size ≤ gb101)); clear HB; have HB := n0_; have BK101 := n1_; have GW101 := n2_; have GE101 := n3_; clear n0_ n1_ n2_ n3_; clear hb hbox hg) | ((with_reducible refine gate_dst (N := 3) rfl ?_); (try (refine gate_guard (by rfl) ?_; dsimp only)); refine box_event ?hg (N := 3) ?hd (cs := #[.string a1_0, .string a1_1]) (t := 44) ?hr ?_; (case hd => rfl); (case hg => rfl); (case hr => first | (go_simp; done) | (go_simp; rfl)); intro gb102 hg w5 hbox hb; have n0_ := Aside0.mk (blk_below (g := gb101) (o := .cells #[.string a0_0, .int .i64 a0_1, .slice A0_2 l0_2.length c0_2, .int .i64 a0_3, .string a0_4, .string a0_5, .slice A0_6 l0_6.length c0_6] 42 (0, 0)) (by (with_reducible repeat (first | refine blk_drewN ?_ _ | refine blk_drew ?_ | refine blk_alloc ?_ _)); exact BK101.out) hb); have n1_ := Aside0.mk (below_step (by repeat (first | (with_reducible first | exact HB.out | apply below_alloc | apply pw_below_drewN | apply below_drew1 | refine below_set ?_ GE101.out) | exact HB.out)) hb); have n2_ := Aside0.mk (hbox); have n3_ := Aside0.mk ((by rw [hg]; exact (below_size (by repeat (first | (with_reducible first | exact HB.out | apply below_alloc | apply pw_below_drewN | apply below_drew1 | refine below_set ?_ GE101.out) | exact HB.out))) : w.heap.size ≤ gb102)); have n4_ := Aside0.mk ((by rw [hg]; exact (below_size (by repeat (first | (with_reducible first | exact HB.out | apply below_alloc | apply pw_below_drewN | apply below_drew1 | refine below_set ?_ GE101.out) | exact HB.out))) : w.heap.size ≤ gb102)); have n5_ := Aside0.mk ((by rw [hg]; exact Nat.ne_of_lt (blk_lt (g := gb101) (o := .cells #[.string a0_0, .int .i64 a0_1, .slice A0_2 l0_2.length c0_2, .int .i64 a0_3, .string a0_4, .string a0_5, .slice A0_6 l0_6.length c0_6] 42 (0, 0)) (by (with_reducible repeat (first | refine blk_drewN ?_ _ | refine blk_drew ?_ | refine blk_alloc ?_ _)); exact BK101.out)) : gb101 ≠ gb102)); have n6_ := Aside0.mk ((by rw [hg]; exact Nat.ne_of_gt (blk_lt (g := gb101) (o := .cells #[.string a0_0, .int .i64 a0_1, .slice A0_2 l0_2.length c0_2, .int .i64 a0_3, .string a0_4, .string a0_5, .slice A0_6 l0_6.length c0_6] 42 (0, 0)) (by (with_reducible repeat (first | refine blk_drewN ?_ _ | refine blk_drew ?_ | refine blk_alloc ?_ _)); exact BK101.out)) : gb102 ≠ gb101)); clear BK101; clear HB; have BK101 := n0_; have HB := n1_; have BK102 := n2_; have GW102 := n3_; have GE102 := n4_; have NB101_102 := n5_; have NB102_101 := n6_; clear n0_ n1_ n2_ n3_ n4_ n5_ n6_; clear hb hbox hg))
  repeat (go_quiet (first | ((with_reducible refine gate_dst (N := 2) rfl ?_); (try (refine gate_guard (by rfl) ?_; dsimp only)); refine box_event ?hg (N := 2) ?hd (cs := #[.string a0_0, .int .i64 a0_1, .slice A0_2 l0_2.length c0_2, .int .i64 a0_3, .string a0_4, .string a0_5, .slice A0_6 l0_6.length c0_6]) (t := 42) ?hr ?_; (case hd => rfl); (case hg => rfl); (case hr => first | (go_simp; done) | (go_simp; rfl)); intro gb101 hg w4 hbox hb; have n0_ := Aside0.mk (below_step (by repeat (first | (with_reducible first | exact HB.out | apply below_alloc | apply pw_below_drewN | apply below_drew1) | exact HB.out)) hb); have n1_ := Aside0.mk (hbox); have n2_ := Aside0.mk ((by rw [hg]; exact (below_size (by repeat (first | (with_reducible first | exact HB.out | apply below_alloc | apply pw_below_drewN | apply below_drew1) | exact HB.out))) : w.heap.size ≤ gb101)); have n3_ := Aside0.mk ((by rw [hg]; exact (below_size (by repeat (first | (with_reducible first | exact HB.out | apply below_alloc | apply pw_below_drewN | apply below_drew1) | exact HB.out))) : w.heap.size ≤ gb101)); clear HB; have HB := n0_; have BK101 := n1_; have GW101 := n2_; have GE101 := n3_; clear n0_ n1_ n2_ n3_; clear hb hbox hg) | ((with_reducible refine gate_dst (N := 3) rfl ?_); (try (refine gate_guard (by rfl) ?_; dsimp only)); refine box_event ?hg (N := 3) ?hd (cs := #[.string a1_0, .string a1_1]) (t := 44) ?hr ?_; (case hd => rfl); (case hg => rfl); (case hr => first | (go_simp; done) | (go_simp; rfl)); intro gb102 hg w5 hbox hb; have n0_ := Aside0.mk (blk_below (g := gb101) (o := .cells #[.string a0_0, .int .i64 a0_1, .slice A0_2 l0_2.length c0_2, .int .i64 a0_3, .string a0_4, .string a0_5, .slice A0_6 l0_6.length c0_6] 42 (0, 0)) (by (with_reducible repeat (first | refine blk_drewN ?_ _ | refine blk_drew ?_ | refine blk_alloc ?_ _)); exact BK101.out) hb); have n1_ := Aside0.mk (below_step (by repeat (first | (with_reducible first | exact HB.out | apply below_alloc | apply pw_below_drewN | apply below_drew1 | refine below_set ?_ GE101.out) | exact HB.out)) hb); have n2_ := Aside0.mk (hbox); have n3_ := Aside0.mk ((by rw [hg]; exact (below_size (by repeat (first | (with_reducible first | exact HB.out | apply below_alloc | apply pw_below_drewN | apply below_drew1 | refine below_set ?_ GE101.out) | exact HB.out))) : w.heap.size ≤ gb102)); have n4_ := Aside0.mk ((by rw [hg]; exact (below_size (by repeat (first | (with_reducible first | exact HB.out | apply below_alloc | apply pw_below_drewN | apply below_drew1 | refine below_set ?_ GE101.out) | exact HB.out))) : w.heap.size ≤ gb102)); have n5_ := Aside0.mk ((by rw [hg]; exact Nat.ne_of_lt (blk_lt (g := gb101) (o := .cells #[.string a0_0, .int .i64 a0_1, .slice A0_2 l0_2.length c0_2, .int .i64 a0_3, .string a0_4, .string a0_5, .slice A0_6 l0_6.length c0_6] 42 (0, 0)) (by (with_reducible repeat (first | refine blk_drewN ?_ _ | refine blk_drew ?_ | refine blk_alloc ?_ _)); exact BK101.out)) : gb101 ≠ gb102)); have n6_ := Aside0.mk ((by rw [hg]; exact Nat.ne_of_gt (blk_lt (g := gb101) (o := .cells #[.string a0_0, .int .i64 a0_1, .slice A0_2 l0_2.length c0_2, .int .i64 a0_3, .string a0_4, .string a0_5, .slice A0_6 l0_6.length c0_6] 42 (0, 0)) (by (with_reducible repeat (first | refine blk_drewN ?_ _ | refine blk_drew ?_ | refine blk_alloc ?_ _)); exact BK101.out)) : gb102 ≠ gb101)); clear BK101; clear HB; have BK101 := n0_; have HB := n1_; have BK102 := n2_; have GW102 := n3_; have GE102 := n4_; have NB101_102 := n5_; have NB102_101 := n6_; clear n0_ n1_ n2_ n3_ n4_ n5_ n6_; clear hb hbox hg)); go_upto_region 1 with (first | ((with_reducible refine gate_dst (N := 2) rfl ?_); (try (refine gate_guard (by rfl) ?_; dsimp only)); refine box_event ?hg (N := 2) ?hd (cs := #[.string a0_0, .int .i64 a0_1, .slice A0_2 l0_2.length c0_2, .int .i64 a0_3, .string a0_4, .string a0_5, .slice A0_6 l0_6.length c0_6]) (t := 42) ?hr ?_; (case hd => rfl); (case hg => rfl); (case hr => first | (go_simp; done) | (go_simp; rfl)); intro gb101 hg w4 hbox hb; have n0_ := Aside0.mk (below_step (by repeat (first | (with_reducible first | exact HB.out | apply below_alloc | apply pw_below_drewN | apply below_drew1) | exact HB.out)) hb); have n1_ := Aside0.mk (hbox); have n2_ := Aside0.mk ((by rw [hg]; exact (below_size (by repeat (first | (with_reducible first | exact HB.out | apply below_alloc | apply pw_below_drewN | apply below_drew1) | exact HB.out))) : w.heap.size ≤ gb101)); have n3_ := Aside0.mk ((by rw [hg]; exact (below_size (by repeat (first | (with_reducible first | exact HB.out | apply below_alloc | apply pw_below_drewN | apply below_drew1) | exact HB.out))) : w.heap.size ≤ gb101)); clear HB; have HB := n0_; have BK101 := n1_; have GW101 := n2_; have GE101 := n3_; clear n0_ n1_ n2_ n3_; clear hb hbox hg) | ((with_reducible refine gate_dst (N := 3) rfl ?_); (try (refine gate_guard (by rfl) ?_; dsimp only)); refine box_event ?hg (N := 3) ?hd (cs := #[.string a1_0, .string a1_1]) (t := 44) ?hr ?_; (case hd => rfl); (case hg => rfl); (case hr => first | (go_simp; done) | (go_simp; rfl)); intro gb102 hg w5 hbox hb; have n0_ := Aside0.mk (blk_below (g := gb101) (o := .cells #[.string a0_0, .int .i64 a0_1, .slice A0_2 l0_2.length c0_2, .int .i64 a0_3, .string a0_4, .string a0_5, .slice A0_6 l0_6.length c0_6] 42 (0, 0)) (by (with_reducible repeat (first | refine blk_drewN ?_ _ | refine blk_drew ?_ | refine blk_alloc ?_ _)); exact BK101.out) hb); have n1_ := Aside0.mk (below_step (by repeat (first | (with_reducible first | exact HB.out | apply below_alloc | apply pw_below_drewN | apply below_drew1 | refine below_set ?_ GE101.out) | exact HB.out)) hb); have n2_ := Aside0.mk (hbox); have n3_ := Aside0.mk ((by rw [hg]; exact (below_size (by repeat (first | (with_reducible first | exact HB.out | apply below_alloc | apply pw_below_drewN | apply below_drew1 | refine below_set ?_ GE101.out) | exact HB.out))) : w.heap.size ≤ gb102)); have n4_ := Aside0.mk ((by rw [hg]; exact (below_size (by repeat (first | (with_reducible first | exact HB.out | apply below_alloc | apply pw_below_drewN | apply below_drew1 | refine below_set ?_ GE101.out) | exact HB.out))) : w.heap.size ≤ gb102)); have n5_ := Aside0.mk ((by rw [hg]; exact Nat.ne_of_lt (blk_lt (g := gb101) (o := .cells #[.string a0_0, .int .i64 a0_1, .slice A0_2 l0_2.length c0_2, .int .i64 a0_3, .string a0_4, .string a0_5, .slice A0_6 l0_6.length c0_6] 42 (0, 0)) (by (with_reducible repeat (first | refine blk_drewN ?_ _ | refine blk_drew ?_ | refine blk_alloc ?_ _)); exact BK101.out)) : gb101 ≠ gb102)); have n6_ := Aside0.mk ((by rw [hg]; exact Nat.ne_of_gt (blk_lt (g := gb101) (o := .cells #[.string a0_0, .int .i64 a0_1, .slice A0_2 l0_2.length c0_2, .int .i64 a0_3, .string a0_4, .string a0_5, .slice A0_6 l0_6.length c0_6] 42 (0, 0)) (by (with_reducible repeat (first | refine blk_drewN ?_ _ | refine blk_drew ?_ | refine blk_alloc ?_ _)); exact BK101.out)) : gb102 ≠ gb101)); clear BK101; clear HB; have BK101 := n0_; have HB := n1_; have BK102 := n2_; have GW102 := n3_; have GE102 := n4_; have NB101_102 := n5_; have NB102_101 := n6_; clear n0_ n1_ n2_ n3_ n4_ n5_ n6_; clear hb hbox hg)))
  (try simp only [Act.put, List.setIfInBounds_toArray, List.set_cons_zero, List.set_cons_succ])
  go_cut [14] (fun v14 wc => ∃ (kq : Nat) (x14_2 : Bool), v14 = .bool x14_2 ∧ Aside0 (vestrylaw11_SchemaAllows.j0 kq x14_2 a0_0 a0_1 l0_2 a0_3 a0_4 a0_5 l0_6 a1_0 a1_1 = some r) ∧ Aside0 (kq ≤ k) ∧ Aside0 (wc.heap[gb101]? = some (.cells #[.string a0_0, .int .i64 a0_1, (.slice A0_2 l0_2.length c0_2), .int .i64 a0_3, .string a0_4, .string a0_5, (.slice A0_6 l0_6.length c0_6)] 42 (0, 0))) ∧ Aside0 (wc.heap[gb102]? = some (.cells #[.string a1_0, .string a1_1] 44 (0, 0))) ∧ Aside0 (Below w.heap.size w wc))
  case first =>
    have H := HC3.out
    clear HC3
    replace H := Option.bind_eq_some_iff.mp H
    obtain ⟨t103, A60, H⟩ := H
    replace H : (if t103 = true then (vestrylaw11_SchemaAllows.j0 k (decide ((l0_2.length : Int) > 100)) a0_0 a0_1 l0_2 a0_3 a0_4 a0_5 l0_6 a1_0 a1_1) else (vestrylaw11_SchemaAllows.j0 k true a0_0 a0_1 l0_2 a0_3 a0_4 a0_5 l0_6 a1_0 a1_1)) = some r := H
    have A6 := Aside0.mk A60
    clear A60
    by_cases c7 : t103 = true
    · subst c7
      have H1 : (vestrylaw11_SchemaAllows.j0 k (decide ((l0_2.length : Int) > 100)) a0_0 a0_1 l0_2 a0_3 a0_4 a0_5 l0_6 a1_0 a1_1) = some r := by rw [if_pos rfl] at H; exact H
      clear H
      have H := H1
      clear H1
      have H' := Aside0.mk H
      clear H
      go_wp2_with (first | (go_at_call 32; (with_reducible refine (vestrylaw11_awake.calls k  true _ ?sideL A6.out).mono ?_); (case sideL => exact HL.out.below (by repeat (first | (with_reducible first | exact HB.out | exact Below.refl _ _ | apply below_alloc | apply pw_below_drewN | apply below_drew1 | refine below_set ?_ GE101.out | refine below_set ?_ GE102.out) | exact HB.out))); rintro e w8 ⟨rfl, hb⟩; have n0_ := Aside0.mk (blk_below (g := gb101) (o := .cells #[.string a0_0, .int .i64 a0_1, .slice A0_2 l0_2.length c0_2, .int .i64 a0_3, .string a0_4, .string a0_5, .slice A0_6 l0_6.length c0_6] 42 (0, 0)) (by (with_reducible repeat (first | refine blk_drewN ?_ _ | refine blk_drew ?_ | refine blk_alloc ?_ _)); exact BK101.out) hb); have n1_ := Aside0.mk (blk_below (g := gb102) (o := .cells #[.string a1_0, .string a1_1] 44 (0, 0)) (by (with_reducible repeat (first | refine blk_drewN ?_ _ | refine blk_drew ?_ | refine blk_alloc ?_ _)); exact BK102.out) hb); have n2_ := Aside0.mk (below_step (by repeat (first | (with_reducible first | exact HB.out | apply below_alloc | apply pw_below_drewN | apply below_drew1 | refine below_set ?_ GE101.out | refine below_set ?_ GE102.out) | exact HB.out)) hb); clear BK101; clear BK102; clear HB; have BK101 := n0_; have BK102 := n1_; have HB := n2_; clear n0_ n1_ n2_; (try clear hb); (try clear hb2); (try clear hk); (try clear hi); have hnb9 := NB101_102.out; have hnc9 := NB102_101.out; have hcz10_0 : w8.cell? ⟨gb101, 0, none⟩ = some (.string a0_0) := (blk_cell BK101.out 0).trans rfl; have hcz10_1 : w8.cell? ⟨gb101, 1, none⟩ = some (.int .i64 a0_1) := (blk_cell BK101.out 1).trans rfl; have hcz10_2 : w8.cell? ⟨gb101, 2, none⟩ = some (.slice A0_2 l0_2.length c0_2) := (blk_cell BK101.out 2).trans rfl; have hcz10_3 : w8.cell? ⟨gb101, 3, none⟩ = some (.int .i64 a0_3) := (blk_cell BK101.out 3).trans rfl; have hcz10_4 : w8.cell? ⟨gb101, 4, none⟩ = some (.string a0_4) := (blk_cell BK101.out 4).trans rfl; have hcz10_5 : w8.cell? ⟨gb101, 5, none⟩ = some (.string a0_5) := (blk_cell BK101.out 5).trans rfl; have hcz10_6 : w8.cell? ⟨gb101, 6, none⟩ = some (.slice A0_6 l0_6.length c0_6) := (blk_cell BK101.out 6).trans rfl; have hfz10_0 := blk_frozen BK101.out 0; have hfz10_1 := blk_frozen BK101.out 1; have hfz10_2 := blk_frozen BK101.out 2; have hfz10_3 := blk_frozen BK101.out 3; have hfz10_4 := blk_frozen BK101.out 4; have hfz10_5 := blk_frozen BK101.out 5; have hfz10_6 := blk_frozen BK101.out 6))
      repeat (go_quiet (first | (go_at_call 32; (with_reducible refine (vestrylaw11_awake.calls k  true _ ?sideL A6.out).mono ?_); (case sideL => exact HL.out.below (by repeat (first | (with_reducible first | exact HB.out | exact Below.refl _ _ | apply below_alloc | apply pw_below_drewN | apply below_drew1 | refine below_set ?_ GE101.out | refine below_set ?_ GE102.out) | exact HB.out))); rintro e w8 ⟨rfl, hb⟩; have n0_ := Aside0.mk (blk_below (g := gb101) (o := .cells #[.string a0_0, .int .i64 a0_1, .slice A0_2 l0_2.length c0_2, .int .i64 a0_3, .string a0_4, .string a0_5, .slice A0_6 l0_6.length c0_6] 42 (0, 0)) (by (with_reducible repeat (first | refine blk_drewN ?_ _ | refine blk_drew ?_ | refine blk_alloc ?_ _)); exact BK101.out) hb); have n1_ := Aside0.mk (blk_below (g := gb102) (o := .cells #[.string a1_0, .string a1_1] 44 (0, 0)) (by (with_reducible repeat (first | refine blk_drewN ?_ _ | refine blk_drew ?_ | refine blk_alloc ?_ _)); exact BK102.out) hb); have n2_ := Aside0.mk (below_step (by repeat (first | (with_reducible first | exact HB.out | apply below_alloc | apply pw_below_drewN | apply below_drew1 | refine below_set ?_ GE101.out | refine below_set ?_ GE102.out) | exact HB.out)) hb); clear BK101; clear BK102; clear HB; have BK101 := n0_; have BK102 := n1_; have HB := n2_; clear n0_ n1_ n2_; (try clear hb); (try clear hb2); (try clear hk); (try clear hi); have hnb9 := NB101_102.out; have hnc9 := NB102_101.out; have hcz10_0 : w8.cell? ⟨gb101, 0, none⟩ = some (.string a0_0) := (blk_cell BK101.out 0).trans rfl; have hcz10_1 : w8.cell? ⟨gb101, 1, none⟩ = some (.int .i64 a0_1) := (blk_cell BK101.out 1).trans rfl; have hcz10_2 : w8.cell? ⟨gb101, 2, none⟩ = some (.slice A0_2 l0_2.length c0_2) := (blk_cell BK101.out 2).trans rfl; have hcz10_3 : w8.cell? ⟨gb101, 3, none⟩ = some (.int .i64 a0_3) := (blk_cell BK101.out 3).trans rfl; have hcz10_4 : w8.cell? ⟨gb101, 4, none⟩ = some (.string a0_4) := (blk_cell BK101.out 4).trans rfl; have hcz10_5 : w8.cell? ⟨gb101, 5, none⟩ = some (.string a0_5) := (blk_cell BK101.out 5).trans rfl; have hcz10_6 : w8.cell? ⟨gb101, 6, none⟩ = some (.slice A0_6 l0_6.length c0_6) := (blk_cell BK101.out 6).trans rfl; have hfz10_0 := blk_frozen BK101.out 0; have hfz10_1 := blk_frozen BK101.out 1; have hfz10_2 := blk_frozen BK101.out 2; have hfz10_3 := blk_frozen BK101.out 3; have hfz10_4 := blk_frozen BK101.out 4; have hfz10_5 := blk_frozen BK101.out 5; have hfz10_6 := blk_frozen BK101.out 6)); try go_wp2_with (first | (go_at_call 32; (with_reducible refine (vestrylaw11_awake.calls k  true _ ?sideL A6.out).mono ?_); (case sideL => exact HL.out.below (by repeat (first | (with_reducible first | exact HB.out | exact Below.refl _ _ | apply below_alloc | apply pw_below_drewN | apply below_drew1 | refine below_set ?_ GE101.out | refine below_set ?_ GE102.out) | exact HB.out))); rintro e w8 ⟨rfl, hb⟩; have n0_ := Aside0.mk (blk_below (g := gb101) (o := .cells #[.string a0_0, .int .i64 a0_1, .slice A0_2 l0_2.length c0_2, .int .i64 a0_3, .string a0_4, .string a0_5, .slice A0_6 l0_6.length c0_6] 42 (0, 0)) (by (with_reducible repeat (first | refine blk_drewN ?_ _ | refine blk_drew ?_ | refine blk_alloc ?_ _)); exact BK101.out) hb); have n1_ := Aside0.mk (blk_below (g := gb102) (o := .cells #[.string a1_0, .string a1_1] 44 (0, 0)) (by (with_reducible repeat (first | refine blk_drewN ?_ _ | refine blk_drew ?_ | refine blk_alloc ?_ _)); exact BK102.out) hb); have n2_ := Aside0.mk (below_step (by repeat (first | (with_reducible first | exact HB.out | apply below_alloc | apply pw_below_drewN | apply below_drew1 | refine below_set ?_ GE101.out | refine below_set ?_ GE102.out) | exact HB.out)) hb); clear BK101; clear BK102; clear HB; have BK101 := n0_; have BK102 := n1_; have HB := n2_; clear n0_ n1_ n2_; (try clear hb); (try clear hb2); (try clear hk); (try clear hi); have hnb9 := NB101_102.out; have hnc9 := NB102_101.out; have hcz10_0 : w8.cell? ⟨gb101, 0, none⟩ = some (.string a0_0) := (blk_cell BK101.out 0).trans rfl; have hcz10_1 : w8.cell? ⟨gb101, 1, none⟩ = some (.int .i64 a0_1) := (blk_cell BK101.out 1).trans rfl; have hcz10_2 : w8.cell? ⟨gb101, 2, none⟩ = some (.slice A0_2 l0_2.length c0_2) := (blk_cell BK101.out 2).trans rfl; have hcz10_3 : w8.cell? ⟨gb101, 3, none⟩ = some (.int .i64 a0_3) := (blk_cell BK101.out 3).trans rfl; have hcz10_4 : w8.cell? ⟨gb101, 4, none⟩ = some (.string a0_4) := (blk_cell BK101.out 4).trans rfl; have hcz10_5 : w8.cell? ⟨gb101, 5, none⟩ = some (.string a0_5) := (blk_cell BK101.out 5).trans rfl; have hcz10_6 : w8.cell? ⟨gb101, 6, none⟩ = some (.slice A0_6 l0_6.length c0_6) := (blk_cell BK101.out 6).trans rfl; have hfz10_0 := blk_frozen BK101.out 0; have hfz10_1 := blk_frozen BK101.out 1; have hfz10_2 := blk_frozen BK101.out 2; have hfz10_3 := blk_frozen BK101.out 3; have hfz10_4 := blk_frozen BK101.out 4; have hfz10_5 := blk_frozen BK101.out 5; have hfz10_6 := blk_frozen BK101.out 6)))
      go_meet
      case rel => exact ⟨_, (decide ((l0_2.length : Int) > 100)), (by first | rfl | (simp; done) | (simp [*]; done)), H', ⟨by first | omega | exact Nat.le_refl _⟩, ⟨by (with_reducible repeat (first | refine blk_drewN ?_ _ | refine blk_drew ?_ | refine blk_alloc ?_ _)); exact BK101.out⟩, ⟨by (with_reducible repeat (first | refine blk_drewN ?_ _ | refine blk_drew ?_ | refine blk_alloc ?_ _)); exact BK102.out⟩, ⟨by repeat (first | (with_reducible first | exact HB.out | apply below_alloc | apply pw_below_drewN | apply below_drew1 | refine below_set ?_ GE101.out | refine below_set ?_ GE102.out) | exact HB.out)⟩⟩
    · replace c7 := Bool.eq_false_iff.mpr c7
      subst c7
      have H1 : (vestrylaw11_SchemaAllows.j0 k true a0_0 a0_1 l0_2 a0_3 a0_4 a0_5 l0_6 a1_0 a1_1) = some r := by rw [if_neg (show ¬ (false = true) by decide)] at H; exact H
      clear H
      have H := H1
      clear H1
      have H' := Aside0.mk H
      clear H
      go_wp2_with (first | (go_at_call 32; (with_reducible refine (vestrylaw11_awake.calls k  false _ ?sideL A6.out).mono ?_); (case sideL => exact HL.out.below (by repeat (first | (with_reducible first | exact HB.out | exact Below.refl _ _ | apply below_alloc | apply pw_below_drewN | apply below_drew1 | refine below_set ?_ GE101.out | refine below_set ?_ GE102.out) | exact HB.out))); rintro e w11 ⟨rfl, hb⟩; have n0_ := Aside0.mk (blk_below (g := gb101) (o := .cells #[.string a0_0, .int .i64 a0_1, .slice A0_2 l0_2.length c0_2, .int .i64 a0_3, .string a0_4, .string a0_5, .slice A0_6 l0_6.length c0_6] 42 (0, 0)) (by (with_reducible repeat (first | refine blk_drewN ?_ _ | refine blk_drew ?_ | refine blk_alloc ?_ _)); exact BK101.out) hb); have n1_ := Aside0.mk (blk_below (g := gb102) (o := .cells #[.string a1_0, .string a1_1] 44 (0, 0)) (by (with_reducible repeat (first | refine blk_drewN ?_ _ | refine blk_drew ?_ | refine blk_alloc ?_ _)); exact BK102.out) hb); have n2_ := Aside0.mk (below_step (by repeat (first | (with_reducible first | exact HB.out | apply below_alloc | apply pw_below_drewN | apply below_drew1 | refine below_set ?_ GE101.out | refine below_set ?_ GE102.out) | exact HB.out)) hb); clear BK101; clear BK102; clear HB; have BK101 := n0_; have BK102 := n1_; have HB := n2_; clear n0_ n1_ n2_; (try clear hb); (try clear hb2); (try clear hk); (try clear hi)))
      repeat (go_quiet (first | (go_at_call 32; (with_reducible refine (vestrylaw11_awake.calls k  false _ ?sideL A6.out).mono ?_); (case sideL => exact HL.out.below (by repeat (first | (with_reducible first | exact HB.out | exact Below.refl _ _ | apply below_alloc | apply pw_below_drewN | apply below_drew1 | refine below_set ?_ GE101.out | refine below_set ?_ GE102.out) | exact HB.out))); rintro e w11 ⟨rfl, hb⟩; have n0_ := Aside0.mk (blk_below (g := gb101) (o := .cells #[.string a0_0, .int .i64 a0_1, .slice A0_2 l0_2.length c0_2, .int .i64 a0_3, .string a0_4, .string a0_5, .slice A0_6 l0_6.length c0_6] 42 (0, 0)) (by (with_reducible repeat (first | refine blk_drewN ?_ _ | refine blk_drew ?_ | refine blk_alloc ?_ _)); exact BK101.out) hb); have n1_ := Aside0.mk (blk_below (g := gb102) (o := .cells #[.string a1_0, .string a1_1] 44 (0, 0)) (by (with_reducible repeat (first | refine blk_drewN ?_ _ | refine blk_drew ?_ | refine blk_alloc ?_ _)); exact BK102.out) hb); have n2_ := Aside0.mk (below_step (by repeat (first | (with_reducible first | exact HB.out | apply below_alloc | apply pw_below_drewN | apply below_drew1 | refine below_set ?_ GE101.out | refine below_set ?_ GE102.out) | exact HB.out)) hb); clear BK101; clear BK102; clear HB; have BK101 := n0_; have BK102 := n1_; have HB := n2_; clear n0_ n1_ n2_; (try clear hb); (try clear hb2); (try clear hk); (try clear hi))); try go_wp2_with (first | (go_at_call 32; (with_reducible refine (vestrylaw11_awake.calls k  false _ ?sideL A6.out).mono ?_); (case sideL => exact HL.out.below (by repeat (first | (with_reducible first | exact HB.out | exact Below.refl _ _ | apply below_alloc | apply pw_below_drewN | apply below_drew1 | refine below_set ?_ GE101.out | refine below_set ?_ GE102.out) | exact HB.out))); rintro e w11 ⟨rfl, hb⟩; have n0_ := Aside0.mk (blk_below (g := gb101) (o := .cells #[.string a0_0, .int .i64 a0_1, .slice A0_2 l0_2.length c0_2, .int .i64 a0_3, .string a0_4, .string a0_5, .slice A0_6 l0_6.length c0_6] 42 (0, 0)) (by (with_reducible repeat (first | refine blk_drewN ?_ _ | refine blk_drew ?_ | refine blk_alloc ?_ _)); exact BK101.out) hb); have n1_ := Aside0.mk (blk_below (g := gb102) (o := .cells #[.string a1_0, .string a1_1] 44 (0, 0)) (by (with_reducible repeat (first | refine blk_drewN ?_ _ | refine blk_drew ?_ | refine blk_alloc ?_ _)); exact BK102.out) hb); have n2_ := Aside0.mk (below_step (by repeat (first | (with_reducible first | exact HB.out | apply below_alloc | apply pw_below_drewN | apply below_drew1 | refine below_set ?_ GE101.out | refine below_set ?_ GE102.out) | exact HB.out)) hb); clear BK101; clear BK102; clear HB; have BK101 := n0_; have BK102 := n1_; have HB := n2_; clear n0_ n1_ n2_; (try clear hb); (try clear hb2); (try clear hk); (try clear hi))))
      go_meet
      case rel => exact ⟨_, (true), (by first | rfl | (simp; done) | (simp [*]; done)), H', ⟨by first | omega | exact Nat.le_refl _⟩, ⟨by (with_reducible repeat (first | refine blk_drewN ?_ _ | refine blk_drew ?_ | refine blk_alloc ?_ _)); exact BK101.out⟩, ⟨by (with_reducible repeat (first | refine blk_drewN ?_ _ | refine blk_drew ?_ | refine blk_alloc ?_ _)); exact BK102.out⟩, ⟨by repeat (first | (with_reducible first | exact HB.out | apply below_alloc | apply pw_below_drewN | apply below_drew1 | refine below_set ?_ GE101.out | refine below_set ?_ GE102.out) | exact HB.out)⟩⟩
  case rest =>
    clear HC3
    try clear p2
    try clear c7
    try clear c8
    try clear c9
    try clear hcz10_0
    try clear hcz10_1
    try clear hcz10_2
    try clear hcz10_3
    try clear hcz10_4
    try clear hcz10_5
    try clear hcz10_6
    try clear hfz10_0
    try clear hfz10_1
    try clear hfz10_2
    try clear hfz10_3
    try clear hfz10_4
    try clear hfz10_5
    try clear hfz10_6
    obtain ⟨kq, x14_2, rfl, HA, HJ2, BK101, BK102, HB⟩ := hcut
    cases kq with
    | zero => exact absurd HA.out (by simp [vestrylaw11_SchemaAllows.j0])
    | succ kj2 =>
      have H := HA.out
      clear HA
      simp only [vestrylaw11_SchemaAllows.j0] at H
      by_cases c12 : x14_2 = true
      · subst c12
        have H1 : ((vestrylaw11_awake.f kj2).bind fun t104 => (some t104)) = some r := by rw [if_pos rfl] at H; exact H
        clear H
        have H := H1
        clear H1
        replace H := Option.bind_eq_some_iff.mp H
        obtain ⟨t104, A130, H⟩ := H
        replace H : (some t104) = some r := H
        have A13 := Aside0.mk A130
        clear A130
        obtain rfl := Option.some.inj H
        go_wp2_with (first | (go_at_call 32; (with_reducible refine (vestrylaw11_awake.calls kj2  t104 _ ?sideL A13.out).mono ?_); (case sideL => exact HL.out.below (by repeat (first | (with_reducible first | exact HB.out | exact Below.refl _ _ | apply below_alloc | apply pw_below_drewN | apply below_drew1 | refine below_set ?_ GE101.out | refine below_set ?_ GE102.out) | exact HB.out))); rintro e w14 ⟨rfl, hb⟩; have n0_ := Aside0.mk (blk_below (g := gb101) (o := .cells #[.string a0_0, .int .i64 a0_1, .slice A0_2 l0_2.length c0_2, .int .i64 a0_3, .string a0_4, .string a0_5, .slice A0_6 l0_6.length c0_6] 42 (0, 0)) (by (with_reducible repeat (first | refine blk_drewN ?_ _ | refine blk_drew ?_ | refine blk_alloc ?_ _)); exact BK101.out) hb); have n1_ := Aside0.mk (blk_below (g := gb102) (o := .cells #[.string a1_0, .string a1_1] 44 (0, 0)) (by (with_reducible repeat (first | refine blk_drewN ?_ _ | refine blk_drew ?_ | refine blk_alloc ?_ _)); exact BK102.out) hb); have n2_ := Aside0.mk (below_step (by repeat (first | (with_reducible first | exact HB.out | apply below_alloc | apply pw_below_drewN | apply below_drew1 | refine below_set ?_ GE101.out | refine below_set ?_ GE102.out) | exact HB.out)) hb); clear BK101; clear BK102; clear HB; have BK101 := n0_; have BK102 := n1_; have HB := n2_; clear n0_ n1_ n2_; (try clear hb); (try clear hb2); (try clear hk); (try clear hi)))
        repeat (go_quiet (first | (go_at_call 32; (with_reducible refine (vestrylaw11_awake.calls kj2  t104 _ ?sideL A13.out).mono ?_); (case sideL => exact HL.out.below (by repeat (first | (with_reducible first | exact HB.out | exact Below.refl _ _ | apply below_alloc | apply pw_below_drewN | apply below_drew1 | refine below_set ?_ GE101.out | refine below_set ?_ GE102.out) | exact HB.out))); rintro e w14 ⟨rfl, hb⟩; have n0_ := Aside0.mk (blk_below (g := gb101) (o := .cells #[.string a0_0, .int .i64 a0_1, .slice A0_2 l0_2.length c0_2, .int .i64 a0_3, .string a0_4, .string a0_5, .slice A0_6 l0_6.length c0_6] 42 (0, 0)) (by (with_reducible repeat (first | refine blk_drewN ?_ _ | refine blk_drew ?_ | refine blk_alloc ?_ _)); exact BK101.out) hb); have n1_ := Aside0.mk (blk_below (g := gb102) (o := .cells #[.string a1_0, .string a1_1] 44 (0, 0)) (by (with_reducible repeat (first | refine blk_drewN ?_ _ | refine blk_drew ?_ | refine blk_alloc ?_ _)); exact BK102.out) hb); have n2_ := Aside0.mk (below_step (by repeat (first | (with_reducible first | exact HB.out | apply below_alloc | apply pw_below_drewN | apply below_drew1 | refine below_set ?_ GE101.out | refine below_set ?_ GE102.out) | exact HB.out)) hb); clear BK101; clear BK102; clear HB; have BK101 := n0_; have BK102 := n1_; have HB := n2_; clear n0_ n1_ n2_; (try clear hb); (try clear hb2); (try clear hk); (try clear hi))); try go_wp2_with (first | (go_at_call 32; (with_reducible refine (vestrylaw11_awake.calls kj2  t104 _ ?sideL A13.out).mono ?_); (case sideL => exact HL.out.below (by repeat (first | (with_reducible first | exact HB.out | exact Below.refl _ _ | apply below_alloc | apply pw_below_drewN | apply below_drew1 | refine below_set ?_ GE101.out | refine below_set ?_ GE102.out) | exact HB.out))); rintro e w14 ⟨rfl, hb⟩; have n0_ := Aside0.mk (blk_below (g := gb101) (o := .cells #[.string a0_0, .int .i64 a0_1, .slice A0_2 l0_2.length c0_2, .int .i64 a0_3, .string a0_4, .string a0_5, .slice A0_6 l0_6.length c0_6] 42 (0, 0)) (by (with_reducible repeat (first | refine blk_drewN ?_ _ | refine blk_drew ?_ | refine blk_alloc ?_ _)); exact BK101.out) hb); have n1_ := Aside0.mk (blk_below (g := gb102) (o := .cells #[.string a1_0, .string a1_1] 44 (0, 0)) (by (with_reducible repeat (first | refine blk_drewN ?_ _ | refine blk_drew ?_ | refine blk_alloc ?_ _)); exact BK102.out) hb); have n2_ := Aside0.mk (below_step (by repeat (first | (with_reducible first | exact HB.out | apply below_alloc | apply pw_below_drewN | apply below_drew1 | refine below_set ?_ GE101.out | refine below_set ?_ GE102.out) | exact HB.out)) hb); clear BK101; clear BK102; clear HB; have BK101 := n0_; have BK102 := n1_; have HB := n2_; clear n0_ n1_ n2_; (try clear hb); (try clear hb2); (try clear hk); (try clear hi))))
        go_ret
        exact ⟨by first | rfl | (simp [errW_none, errW_some] <;> rfl) | (simp [*, errW_none, errW_some] <;> rfl), by repeat (first | (with_reducible first | exact HB.out | apply below_alloc | apply pw_below_drewN | apply below_drew1 | refine below_set ?_ GE101.out | refine below_set ?_ GE102.out) | exact HB.out)⟩
      · replace c12 := Bool.eq_false_iff.mpr c12
        subst c12
        have H1 : (vestrylaw11_SchemaAllows.l0 kj2 false 0 a0_0 a0_1 l0_2 a0_3 a0_4 a0_5 l0_6 a1_0 a1_1) = some r := by rw [if_neg (show ¬ (false = true) by decide)] at H; exact H
        clear H
        have H := H1
        clear H1
        have H' := Aside0.mk H
        clear H
        go_wp2
        repeat (go_quiet (fail); try go_wp2)
        go_loopg [5, 6] kj2 (fun kq v5 v6 w' => ∃ (x5_2 : Bool) (x6_2 : Int), v5 = .bool x5_2 ∧ v6 = .int .i64 x6_2 ∧ Aside0 (vestrylaw11_SchemaAllows.l0 kq x5_2 x6_2 a0_0 a0_1 l0_2 a0_3 a0_4 a0_5 l0_6 a1_0 a1_1 = some r) ∧ Aside0 (kq ≤ kj2) ∧ Aside0 (w'.heap[gb101]? = some (.cells #[.string a0_0, .int .i64 a0_1, (.slice A0_2 l0_2.length c0_2), .int .i64 a0_3, .string a0_4, .string a0_5, (.slice A0_6 l0_6.length c0_6)] 42 (0, 0))) ∧ Aside0 (w'.heap[gb102]? = some (.cells #[.string a1_0, .string a1_1] 44 (0, 0))) ∧ Aside0 (Below w.heap.size w w'))
        case atStart => exact ⟨(false), (0), (by first | rfl | (simp; done) | (simp [*]; done)), (by first | rfl | (simp; done) | (simp [*]; done)), H', ⟨Nat.le_refl _⟩, ⟨by (with_reducible repeat (first | refine blk_drewN ?_ _ | refine blk_drew ?_ | refine blk_alloc ?_ _)); exact BK101.out⟩, ⟨by (with_reducible repeat (first | refine blk_drewN ?_ _ | refine blk_drew ?_ | refine blk_alloc ?_ _)); exact BK102.out⟩, ⟨by repeat (first | (with_reducible first | exact HB.out | apply below_alloc | apply pw_below_drewN | apply below_drew1 | refine below_set ?_ GE101.out | refine below_set ?_ GE102.out) | exact HB.out)⟩⟩
        case round =>
          clear H'
          try clear c1
          try clear p2
          try clear c7
          try clear c8
          try clear c9
          try clear c12
          try clear hcz10_0
          try clear hcz10_1
          try clear hcz10_2
          try clear hcz10_3
          try clear hcz10_4
          try clear hcz10_5
          try clear hcz10_6
          try clear hfz10_0
          try clear hfz10_1
          try clear hfz10_2
          try clear hfz10_3
          try clear hfz10_4
          try clear hfz10_5
          try clear hfz10_6
          try clear p2
          obtain ⟨x5_2, x6_2, rfl, rfl, HA, HK2, BK101, BK102, HB⟩ := hrel
          cases gk with
          | zero => exact absurd HA.out (by simp [vestrylaw11_SchemaAllows.l0])
          | succ k2 =>
            have H := HA.out
            clear HA
            simp only [vestrylaw11_SchemaAllows.l0] at H
            by_cases c15 : x6_2 < (l0_2.length : Int)
            · rw [if_pos c15] at H
              have c15b0 : decide (x6_2 < (l0_2.length : Int)) = true := decide_eq_true c15
              clear c15
              by_cases c16 : x5_2 = true
              · subst c16
                have H1 : (vestrylaw11_SchemaAllows.l0 k2 true (wrap64 (x6_2 + 1)) a0_0 a0_1 l0_2 a0_3 a0_4 a0_5 l0_6 a1_0 a1_1) = some r := by rw [if_pos rfl] at H; exact H
                clear H
                have H := H1
                clear H1
                have H' := Aside0.mk H
                clear H
                have hnb17 := NB101_102.out
                have hnc17 := NB102_101.out
                have hcz18_0 : wr.cell? ⟨gb101, 0, none⟩ = some (.string a0_0) := (blk_cell BK101.out 0).trans rfl
                have hcz18_1 : wr.cell? ⟨gb101, 1, none⟩ = some (.int .i64 a0_1) := (blk_cell BK101.out 1).trans rfl
                have hcz18_2 : wr.cell? ⟨gb101, 2, none⟩ = some (.slice A0_2 l0_2.length c0_2) := (blk_cell BK101.out 2).trans rfl
                have hcz18_3 : wr.cell? ⟨gb101, 3, none⟩ = some (.int .i64 a0_3) := (blk_cell BK101.out 3).trans rfl
                have hcz18_4 : wr.cell? ⟨gb101, 4, none⟩ = some (.string a0_4) := (blk_cell BK101.out 4).trans rfl
                have hcz18_5 : wr.cell? ⟨gb101, 5, none⟩ = some (.string a0_5) := (blk_cell BK101.out 5).trans rfl
                have hcz18_6 : wr.cell? ⟨gb101, 6, none⟩ = some (.slice A0_6 l0_6.length c0_6) := (blk_cell BK101.out 6).trans rfl
                have hfz18_0 := blk_frozen BK101.out 0
                have hfz18_1 := blk_frozen BK101.out 1
                have hfz18_2 := blk_frozen BK101.out 2
                have hfz18_3 := blk_frozen BK101.out 3
                have hfz18_4 := blk_frozen BK101.out 4
                have hfz18_5 := blk_frozen BK101.out 5
                have hfz18_6 := blk_frozen BK101.out 6
                go_wp2
                repeat (go_quiet (fail); try go_wp2)
                go_roundg k2
                case measure => have := HJ2.out; have := HK2.out; omega
                case rel => exact ⟨(true), (wrap64 (x6_2 + 1)), (by first | rfl | (simp; done) | (simp [*]; done)), (by first | rfl | (simp; done) | (simp [*]; done)), H', ⟨by have := HJ2.out; have := HK2.out; omega⟩, ⟨by (with_reducible repeat (first | refine blk_drewN ?_ _ | refine blk_drew ?_ | refine blk_alloc ?_ _)); exact BK101.out⟩, ⟨by (with_reducible repeat (first | refine blk_drewN ?_ _ | refine blk_drew ?_ | refine blk_alloc ?_ _)); exact BK102.out⟩, ⟨by repeat (first | (with_reducible first | exact HB.out | apply below_alloc | apply pw_below_drewN | apply below_drew1 | refine below_set ?_ GE101.out | refine below_set ?_ GE102.out) | exact HB.out)⟩⟩
              · replace c16 := Bool.eq_false_iff.mpr c16
                subst c16
                have H1 : (if 0 ≤ x6_2 then (vestrylaw11_SchemaAllows.l0 k2 ((((rd_T44 l0_2 x6_2).f0).toList) == a1_0.toList && ((((rd_T44 l0_2 x6_2).f1).toList) == a1_1.toList)) (wrap64 (x6_2 + 1)) a0_0 a0_1 l0_2 a0_3 a0_4 a0_5 l0_6 a1_0 a1_1) else (none)) = some r := by rw [if_neg (show ¬ (false = true) by decide)] at H; exact H
                clear H
                have H := H1
                clear H1
                by_cases c19 : 0 ≤ x6_2
                · rw [if_pos c19] at H
                  have c19b0 : decide (0 ≤ x6_2) = true := decide_eq_true c19
                  clear c19
                  have H' := Aside0.mk H
                  clear H
                  have hnb20 := NB101_102.out
                  have hnc20 := NB102_101.out
                  have hcz21_0 : wr.cell? ⟨gb101, 0, none⟩ = some (.string a0_0) := (blk_cell BK101.out 0).trans rfl
                  have hcz21_1 : wr.cell? ⟨gb101, 1, none⟩ = some (.int .i64 a0_1) := (blk_cell BK101.out 1).trans rfl
                  have hcz21_2 : wr.cell? ⟨gb101, 2, none⟩ = some (.slice A0_2 l0_2.length c0_2) := (blk_cell BK101.out 2).trans rfl
                  have hcz21_3 : wr.cell? ⟨gb101, 3, none⟩ = some (.int .i64 a0_3) := (blk_cell BK101.out 3).trans rfl
                  have hcz21_4 : wr.cell? ⟨gb101, 4, none⟩ = some (.string a0_4) := (blk_cell BK101.out 4).trans rfl
                  have hcz21_5 : wr.cell? ⟨gb101, 5, none⟩ = some (.string a0_5) := (blk_cell BK101.out 5).trans rfl
                  have hcz21_6 : wr.cell? ⟨gb101, 6, none⟩ = some (.slice A0_6 l0_6.length c0_6) := (blk_cell BK101.out 6).trans rfl
                  have hfz21_0 := blk_frozen BK101.out 0
                  have hfz21_1 := blk_frozen BK101.out 1
                  have hfz21_2 := blk_frozen BK101.out 2
                  have hfz21_3 := blk_frozen BK101.out 3
                  have hfz21_4 := blk_frozen BK101.out 4
                  have hfz21_5 := blk_frozen BK101.out 5
                  have hfz21_6 := blk_frozen BK101.out 6
                  have p105 : 0 ≤ (x6_2 : Int) := of_decide_eq_true (by first | (with_reducible assumption) | assumption)
                  have q105 : x6_2 < (l0_2.length : Int) := of_decide_eq_true (by first | (with_reducible assumption) | assumption)
                  obtain ⟨ad105, e105, hx105_0, hx105_1⟩ := at_T44 HR0_2.out x6_2 p105 q105
                  cases e105
                  replace hx105_0 := (HB.out.cell (World.block_lt_of_cell? w _ hx105_0)).trans hx105_0
                  replace hx105_1 := (HB.out.cell (World.block_lt_of_cell? w _ hx105_1)).trans hx105_1
                  replace p105 := eq_true p105
                  replace q105 := eq_true q105
                  have hcz22_0 : wr.cell? ⟨gb102, 0, none⟩ = some (.string a1_0) := (blk_cell BK102.out 0).trans rfl
                  have hcz22_1 : wr.cell? ⟨gb102, 1, none⟩ = some (.string a1_1) := (blk_cell BK102.out 1).trans rfl
                  have hfz22_0 := blk_frozen BK102.out 0
                  have hfz22_1 := blk_frozen BK102.out 1
                  go_wp2
                  repeat (go_quiet (fail); try go_wp2)
                  go_roundg k2
                  case measure => have := HJ2.out; have := HK2.out; omega
                  case rel => exact ⟨(((((rd_T44 l0_2 x6_2).f0).toList) == a1_0.toList && ((((rd_T44 l0_2 x6_2).f1).toList) == a1_1.toList))), (wrap64 (x6_2 + 1)), (by first | rfl | (simp; done) | (simp [*]; done)), (by first | rfl | (simp; done) | (simp [*]; done)), H', ⟨by have := HJ2.out; have := HK2.out; omega⟩, ⟨by (with_reducible repeat (first | refine blk_drewN ?_ _ | refine blk_drew ?_ | refine blk_alloc ?_ _)); exact BK101.out⟩, ⟨by (with_reducible repeat (first | refine blk_drewN ?_ _ | refine blk_drew ?_ | refine blk_alloc ?_ _)); exact BK102.out⟩, ⟨by repeat (first | (with_reducible first | exact HB.out | apply below_alloc | apply pw_below_drewN | apply below_drew1 | refine below_set ?_ GE101.out | refine below_set ?_ GE102.out) | exact HB.out)⟩⟩
                · rw [if_neg c19] at H
                  exact absurd H (by simp)
            · rw [if_neg c15] at H
              have c15b0 : decide (x6_2 < (l0_2.length : Int)) = false := decide_eq_false c15
              clear c15
              replace H := Option.bind_eq_some_iff.mp H
              obtain ⟨t106, A230, H⟩ := H
              replace H : (if x5_2 = true then (some (t106 == (a0_1 == 1))) else (some (t106 == false))) = some r := H
              have A23 := Aside0.mk A230
              clear A230
              by_cases c24 : x5_2 = true
              · subst c24
                have H1 : (some (t106 == (a0_1 == 1))) = some r := by rw [if_pos rfl] at H; exact H
                clear H
                have H := H1
                clear H1
                obtain rfl := Option.some.inj H
                have hnb25 := NB101_102.out
                have hnc25 := NB102_101.out
                have hcz26_0 : wr.cell? ⟨gb101, 0, none⟩ = some (.string a0_0) := (blk_cell BK101.out 0).trans rfl
                have hcz26_1 : wr.cell? ⟨gb101, 1, none⟩ = some (.int .i64 a0_1) := (blk_cell BK101.out 1).trans rfl
                have hcz26_2 : wr.cell? ⟨gb101, 2, none⟩ = some (.slice A0_2 l0_2.length c0_2) := (blk_cell BK101.out 2).trans rfl
                have hcz26_3 : wr.cell? ⟨gb101, 3, none⟩ = some (.int .i64 a0_3) := (blk_cell BK101.out 3).trans rfl
                have hcz26_4 : wr.cell? ⟨gb101, 4, none⟩ = some (.string a0_4) := (blk_cell BK101.out 4).trans rfl
                have hcz26_5 : wr.cell? ⟨gb101, 5, none⟩ = some (.string a0_5) := (blk_cell BK101.out 5).trans rfl
                have hcz26_6 : wr.cell? ⟨gb101, 6, none⟩ = some (.slice A0_6 l0_6.length c0_6) := (blk_cell BK101.out 6).trans rfl
                have hfz26_0 := blk_frozen BK101.out 0
                have hfz26_1 := blk_frozen BK101.out 1
                have hfz26_2 := blk_frozen BK101.out 2
                have hfz26_3 := blk_frozen BK101.out 3
                have hfz26_4 := blk_frozen BK101.out 4
                have hfz26_5 := blk_frozen BK101.out 5
                have hfz26_6 := blk_frozen BK101.out 6
                have hcz27_0 : wr.cell? ⟨gb102, 0, none⟩ = some (.string a1_0) := (blk_cell BK102.out 0).trans rfl
                have hcz27_1 : wr.cell? ⟨gb102, 1, none⟩ = some (.string a1_1) := (blk_cell BK102.out 1).trans rfl
                have hfz27_0 := blk_frozen BK102.out 0
                have hfz27_1 := blk_frozen BK102.out 1
                go_wp2_with (first | (go_at_call 33; (with_reducible refine (schema_Allows.calls k2 a0_0 a0_1 _ _ l0_2 a0_3 a0_4 a0_5 _ _ l0_6 a1_0 a1_1 t106 _ ?side1 ?side2 ?side3 ?side4 A23.out).mono ?_); (case side1 => repeat (first | exact (Kd.C_below HR0_2.out HB.out) | (with_reducible refine Kd.C_alloc ?_ _) | (with_reducible refine Kd.C_drewN ?_ _) | (with_reducible refine Kd.C_drew ?_))); (case side2 => exact HC0_2.out); (case side3 => repeat (first | exact (Kd.C_below HR0_6.out HB.out) | (with_reducible refine Kd.C_alloc ?_ _) | (with_reducible refine Kd.C_drewN ?_ _) | (with_reducible refine Kd.C_drew ?_))); (case side4 => exact HC0_6.out); rintro e w28 ⟨rfl, hb⟩; have n0_ := Aside0.mk (blk_below (g := gb101) (o := .cells #[.string a0_0, .int .i64 a0_1, .slice A0_2 l0_2.length c0_2, .int .i64 a0_3, .string a0_4, .string a0_5, .slice A0_6 l0_6.length c0_6] 42 (0, 0)) (by (with_reducible repeat (first | refine blk_drewN ?_ _ | refine blk_drew ?_ | refine blk_alloc ?_ _)); exact BK101.out) hb); have n1_ := Aside0.mk (blk_below (g := gb102) (o := .cells #[.string a1_0, .string a1_1] 44 (0, 0)) (by (with_reducible repeat (first | refine blk_drewN ?_ _ | refine blk_drew ?_ | refine blk_alloc ?_ _)); exact BK102.out) hb); have n2_ := Aside0.mk (below_step (by repeat (first | (with_reducible first | exact HB.out | apply below_alloc | apply pw_below_drewN | apply below_drew1 | refine below_set ?_ GE101.out | refine below_set ?_ GE102.out) | exact HB.out)) hb); clear BK101; clear BK102; clear HB; have BK101 := n0_; have BK102 := n1_; have HB := n2_; clear n0_ n1_ n2_; (try clear hb); (try clear hb2); (try clear hk); (try clear hi); have hcz29_0 : w28.cell? ⟨gb101, 0, none⟩ = some (.string a0_0) := (blk_cell BK101.out 0).trans rfl; have hcz29_1 : w28.cell? ⟨gb101, 1, none⟩ = some (.int .i64 a0_1) := (blk_cell BK101.out 1).trans rfl; have hcz29_2 : w28.cell? ⟨gb101, 2, none⟩ = some (.slice A0_2 l0_2.length c0_2) := (blk_cell BK101.out 2).trans rfl; have hcz29_3 : w28.cell? ⟨gb101, 3, none⟩ = some (.int .i64 a0_3) := (blk_cell BK101.out 3).trans rfl; have hcz29_4 : w28.cell? ⟨gb101, 4, none⟩ = some (.string a0_4) := (blk_cell BK101.out 4).trans rfl; have hcz29_5 : w28.cell? ⟨gb101, 5, none⟩ = some (.string a0_5) := (blk_cell BK101.out 5).trans rfl; have hcz29_6 : w28.cell? ⟨gb101, 6, none⟩ = some (.slice A0_6 l0_6.length c0_6) := (blk_cell BK101.out 6).trans rfl; have hfz29_0 := blk_frozen BK101.out 0; have hfz29_1 := blk_frozen BK101.out 1; have hfz29_2 := blk_frozen BK101.out 2; have hfz29_3 := blk_frozen BK101.out 3; have hfz29_4 := blk_frozen BK101.out 4; have hfz29_5 := blk_frozen BK101.out 5; have hfz29_6 := blk_frozen BK101.out 6))
                repeat (go_quiet (first | (go_at_call 33; (with_reducible refine (schema_Allows.calls k2 a0_0 a0_1 _ _ l0_2 a0_3 a0_4 a0_5 _ _ l0_6 a1_0 a1_1 t106 _ ?side1 ?side2 ?side3 ?side4 A23.out).mono ?_); (case side1 => repeat (first | exact (Kd.C_below HR0_2.out HB.out) | (with_reducible refine Kd.C_alloc ?_ _) | (with_reducible refine Kd.C_drewN ?_ _) | (with_reducible refine Kd.C_drew ?_))); (case side2 => exact HC0_2.out); (case side3 => repeat (first | exact (Kd.C_below HR0_6.out HB.out) | (with_reducible refine Kd.C_alloc ?_ _) | (with_reducible refine Kd.C_drewN ?_ _) | (with_reducible refine Kd.C_drew ?_))); (case side4 => exact HC0_6.out); rintro e w28 ⟨rfl, hb⟩; have n0_ := Aside0.mk (blk_below (g := gb101) (o := .cells #[.string a0_0, .int .i64 a0_1, .slice A0_2 l0_2.length c0_2, .int .i64 a0_3, .string a0_4, .string a0_5, .slice A0_6 l0_6.length c0_6] 42 (0, 0)) (by (with_reducible repeat (first | refine blk_drewN ?_ _ | refine blk_drew ?_ | refine blk_alloc ?_ _)); exact BK101.out) hb); have n1_ := Aside0.mk (blk_below (g := gb102) (o := .cells #[.string a1_0, .string a1_1] 44 (0, 0)) (by (with_reducible repeat (first | refine blk_drewN ?_ _ | refine blk_drew ?_ | refine blk_alloc ?_ _)); exact BK102.out) hb); have n2_ := Aside0.mk (below_step (by repeat (first | (with_reducible first | exact HB.out | apply below_alloc | apply pw_below_drewN | apply below_drew1 | refine below_set ?_ GE101.out | refine below_set ?_ GE102.out) | exact HB.out)) hb); clear BK101; clear BK102; clear HB; have BK101 := n0_; have BK102 := n1_; have HB := n2_; clear n0_ n1_ n2_; (try clear hb); (try clear hb2); (try clear hk); (try clear hi); have hcz29_0 : w28.cell? ⟨gb101, 0, none⟩ = some (.string a0_0) := (blk_cell BK101.out 0).trans rfl; have hcz29_1 : w28.cell? ⟨gb101, 1, none⟩ = some (.int .i64 a0_1) := (blk_cell BK101.out 1).trans rfl; have hcz29_2 : w28.cell? ⟨gb101, 2, none⟩ = some (.slice A0_2 l0_2.length c0_2) := (blk_cell BK101.out 2).trans rfl; have hcz29_3 : w28.cell? ⟨gb101, 3, none⟩ = some (.int .i64 a0_3) := (blk_cell BK101.out 3).trans rfl; have hcz29_4 : w28.cell? ⟨gb101, 4, none⟩ = some (.string a0_4) := (blk_cell BK101.out 4).trans rfl; have hcz29_5 : w28.cell? ⟨gb101, 5, none⟩ = some (.string a0_5) := (blk_cell BK101.out 5).trans rfl; have hcz29_6 : w28.cell? ⟨gb101, 6, none⟩ = some (.slice A0_6 l0_6.length c0_6) := (blk_cell BK101.out 6).trans rfl; have hfz29_0 := blk_frozen BK101.out 0; have hfz29_1 := blk_frozen BK101.out 1; have hfz29_2 := blk_frozen BK101.out 2; have hfz29_3 := blk_frozen BK101.out 3; have hfz29_4 := blk_frozen BK101.out 4; have hfz29_5 := blk_frozen BK101.out 5; have hfz29_6 := blk_frozen BK101.out 6)); try go_wp2_with (first | (go_at_call 33; (with_reducible refine (schema_Allows.calls k2 a0_0 a0_1 _ _ l0_2 a0_3 a0_4 a0_5 _ _ l0_6 a1_0 a1_1 t106 _ ?side1 ?side2 ?side3 ?side4 A23.out).mono ?_); (case side1 => repeat (first | exact (Kd.C_below HR0_2.out HB.out) | (with_reducible refine Kd.C_alloc ?_ _) | (with_reducible refine Kd.C_drewN ?_ _) | (with_reducible refine Kd.C_drew ?_))); (case side2 => exact HC0_2.out); (case side3 => repeat (first | exact (Kd.C_below HR0_6.out HB.out) | (with_reducible refine Kd.C_alloc ?_ _) | (with_reducible refine Kd.C_drewN ?_ _) | (with_reducible refine Kd.C_drew ?_))); (case side4 => exact HC0_6.out); rintro e w28 ⟨rfl, hb⟩; have n0_ := Aside0.mk (blk_below (g := gb101) (o := .cells #[.string a0_0, .int .i64 a0_1, .slice A0_2 l0_2.length c0_2, .int .i64 a0_3, .string a0_4, .string a0_5, .slice A0_6 l0_6.length c0_6] 42 (0, 0)) (by (with_reducible repeat (first | refine blk_drewN ?_ _ | refine blk_drew ?_ | refine blk_alloc ?_ _)); exact BK101.out) hb); have n1_ := Aside0.mk (blk_below (g := gb102) (o := .cells #[.string a1_0, .string a1_1] 44 (0, 0)) (by (with_reducible repeat (first | refine blk_drewN ?_ _ | refine blk_drew ?_ | refine blk_alloc ?_ _)); exact BK102.out) hb); have n2_ := Aside0.mk (below_step (by repeat (first | (with_reducible first | exact HB.out | apply below_alloc | apply pw_below_drewN | apply below_drew1 | refine below_set ?_ GE101.out | refine below_set ?_ GE102.out) | exact HB.out)) hb); clear BK101; clear BK102; clear HB; have BK101 := n0_; have BK102 := n1_; have HB := n2_; clear n0_ n1_ n2_; (try clear hb); (try clear hb2); (try clear hk); (try clear hi); have hcz29_0 : w28.cell? ⟨gb101, 0, none⟩ = some (.string a0_0) := (blk_cell BK101.out 0).trans rfl; have hcz29_1 : w28.cell? ⟨gb101, 1, none⟩ = some (.int .i64 a0_1) := (blk_cell BK101.out 1).trans rfl; have hcz29_2 : w28.cell? ⟨gb101, 2, none⟩ = some (.slice A0_2 l0_2.length c0_2) := (blk_cell BK101.out 2).trans rfl; have hcz29_3 : w28.cell? ⟨gb101, 3, none⟩ = some (.int .i64 a0_3) := (blk_cell BK101.out 3).trans rfl; have hcz29_4 : w28.cell? ⟨gb101, 4, none⟩ = some (.string a0_4) := (blk_cell BK101.out 4).trans rfl; have hcz29_5 : w28.cell? ⟨gb101, 5, none⟩ = some (.string a0_5) := (blk_cell BK101.out 5).trans rfl; have hcz29_6 : w28.cell? ⟨gb101, 6, none⟩ = some (.slice A0_6 l0_6.length c0_6) := (blk_cell BK101.out 6).trans rfl; have hfz29_0 := blk_frozen BK101.out 0; have hfz29_1 := blk_frozen BK101.out 1; have hfz29_2 := blk_frozen BK101.out 2; have hfz29_3 := blk_frozen BK101.out 3; have hfz29_4 := blk_frozen BK101.out 4; have hfz29_5 := blk_frozen BK101.out 5; have hfz29_6 := blk_frozen BK101.out 6)))
                go_ret
                exact ⟨by first | rfl | (simp [errW_none, errW_some] <;> rfl) | (simp [*, errW_none, errW_some] <;> rfl), by repeat (first | (with_reducible first | exact HB.out | apply below_alloc | apply pw_below_drewN | apply below_drew1 | refine below_set ?_ GE101.out | refine below_set ?_ GE102.out) | exact HB.out)⟩
              · replace c24 := Bool.eq_false_iff.mpr c24
                subst c24
                have H1 : (some (t106 == false)) = some r := by rw [if_neg (show ¬ (false = true) by decide)] at H; exact H
                clear H
                have H := H1
                clear H1
                obtain rfl := Option.some.inj H
                have hnb30 := NB101_102.out
                have hnc30 := NB102_101.out
                have hcz31_0 : wr.cell? ⟨gb101, 0, none⟩ = some (.string a0_0) := (blk_cell BK101.out 0).trans rfl
                have hcz31_1 : wr.cell? ⟨gb101, 1, none⟩ = some (.int .i64 a0_1) := (blk_cell BK101.out 1).trans rfl
                have hcz31_2 : wr.cell? ⟨gb101, 2, none⟩ = some (.slice A0_2 l0_2.length c0_2) := (blk_cell BK101.out 2).trans rfl
                have hcz31_3 : wr.cell? ⟨gb101, 3, none⟩ = some (.int .i64 a0_3) := (blk_cell BK101.out 3).trans rfl
                have hcz31_4 : wr.cell? ⟨gb101, 4, none⟩ = some (.string a0_4) := (blk_cell BK101.out 4).trans rfl
                have hcz31_5 : wr.cell? ⟨gb101, 5, none⟩ = some (.string a0_5) := (blk_cell BK101.out 5).trans rfl
                have hcz31_6 : wr.cell? ⟨gb101, 6, none⟩ = some (.slice A0_6 l0_6.length c0_6) := (blk_cell BK101.out 6).trans rfl
                have hfz31_0 := blk_frozen BK101.out 0
                have hfz31_1 := blk_frozen BK101.out 1
                have hfz31_2 := blk_frozen BK101.out 2
                have hfz31_3 := blk_frozen BK101.out 3
                have hfz31_4 := blk_frozen BK101.out 4
                have hfz31_5 := blk_frozen BK101.out 5
                have hfz31_6 := blk_frozen BK101.out 6
                have hcz32_0 : wr.cell? ⟨gb102, 0, none⟩ = some (.string a1_0) := (blk_cell BK102.out 0).trans rfl
                have hcz32_1 : wr.cell? ⟨gb102, 1, none⟩ = some (.string a1_1) := (blk_cell BK102.out 1).trans rfl
                have hfz32_0 := blk_frozen BK102.out 0
                have hfz32_1 := blk_frozen BK102.out 1
                go_wp2_with (first | (go_at_call 33; (with_reducible refine (schema_Allows.calls k2 a0_0 a0_1 _ _ l0_2 a0_3 a0_4 a0_5 _ _ l0_6 a1_0 a1_1 t106 _ ?side1 ?side2 ?side3 ?side4 A23.out).mono ?_); (case side1 => repeat (first | exact (Kd.C_below HR0_2.out HB.out) | (with_reducible refine Kd.C_alloc ?_ _) | (with_reducible refine Kd.C_drewN ?_ _) | (with_reducible refine Kd.C_drew ?_))); (case side2 => exact HC0_2.out); (case side3 => repeat (first | exact (Kd.C_below HR0_6.out HB.out) | (with_reducible refine Kd.C_alloc ?_ _) | (with_reducible refine Kd.C_drewN ?_ _) | (with_reducible refine Kd.C_drew ?_))); (case side4 => exact HC0_6.out); rintro e w33 ⟨rfl, hb⟩; have n0_ := Aside0.mk (blk_below (g := gb101) (o := .cells #[.string a0_0, .int .i64 a0_1, .slice A0_2 l0_2.length c0_2, .int .i64 a0_3, .string a0_4, .string a0_5, .slice A0_6 l0_6.length c0_6] 42 (0, 0)) (by (with_reducible repeat (first | refine blk_drewN ?_ _ | refine blk_drew ?_ | refine blk_alloc ?_ _)); exact BK101.out) hb); have n1_ := Aside0.mk (blk_below (g := gb102) (o := .cells #[.string a1_0, .string a1_1] 44 (0, 0)) (by (with_reducible repeat (first | refine blk_drewN ?_ _ | refine blk_drew ?_ | refine blk_alloc ?_ _)); exact BK102.out) hb); have n2_ := Aside0.mk (below_step (by repeat (first | (with_reducible first | exact HB.out | apply below_alloc | apply pw_below_drewN | apply below_drew1 | refine below_set ?_ GE101.out | refine below_set ?_ GE102.out) | exact HB.out)) hb); clear BK101; clear BK102; clear HB; have BK101 := n0_; have BK102 := n1_; have HB := n2_; clear n0_ n1_ n2_; (try clear hb); (try clear hb2); (try clear hk); (try clear hi)))
                repeat (go_quiet (first | (go_at_call 33; (with_reducible refine (schema_Allows.calls k2 a0_0 a0_1 _ _ l0_2 a0_3 a0_4 a0_5 _ _ l0_6 a1_0 a1_1 t106 _ ?side1 ?side2 ?side3 ?side4 A23.out).mono ?_); (case side1 => repeat (first | exact (Kd.C_below HR0_2.out HB.out) | (with_reducible refine Kd.C_alloc ?_ _) | (with_reducible refine Kd.C_drewN ?_ _) | (with_reducible refine Kd.C_drew ?_))); (case side2 => exact HC0_2.out); (case side3 => repeat (first | exact (Kd.C_below HR0_6.out HB.out) | (with_reducible refine Kd.C_alloc ?_ _) | (with_reducible refine Kd.C_drewN ?_ _) | (with_reducible refine Kd.C_drew ?_))); (case side4 => exact HC0_6.out); rintro e w33 ⟨rfl, hb⟩; have n0_ := Aside0.mk (blk_below (g := gb101) (o := .cells #[.string a0_0, .int .i64 a0_1, .slice A0_2 l0_2.length c0_2, .int .i64 a0_3, .string a0_4, .string a0_5, .slice A0_6 l0_6.length c0_6] 42 (0, 0)) (by (with_reducible repeat (first | refine blk_drewN ?_ _ | refine blk_drew ?_ | refine blk_alloc ?_ _)); exact BK101.out) hb); have n1_ := Aside0.mk (blk_below (g := gb102) (o := .cells #[.string a1_0, .string a1_1] 44 (0, 0)) (by (with_reducible repeat (first | refine blk_drewN ?_ _ | refine blk_drew ?_ | refine blk_alloc ?_ _)); exact BK102.out) hb); have n2_ := Aside0.mk (below_step (by repeat (first | (with_reducible first | exact HB.out | apply below_alloc | apply pw_below_drewN | apply below_drew1 | refine below_set ?_ GE101.out | refine below_set ?_ GE102.out) | exact HB.out)) hb); clear BK101; clear BK102; clear HB; have BK101 := n0_; have BK102 := n1_; have HB := n2_; clear n0_ n1_ n2_; (try clear hb); (try clear hb2); (try clear hk); (try clear hi))); try go_wp2_with (first | (go_at_call 33; (with_reducible refine (schema_Allows.calls k2 a0_0 a0_1 _ _ l0_2 a0_3 a0_4 a0_5 _ _ l0_6 a1_0 a1_1 t106 _ ?side1 ?side2 ?side3 ?side4 A23.out).mono ?_); (case side1 => repeat (first | exact (Kd.C_below HR0_2.out HB.out) | (with_reducible refine Kd.C_alloc ?_ _) | (with_reducible refine Kd.C_drewN ?_ _) | (with_reducible refine Kd.C_drew ?_))); (case side2 => exact HC0_2.out); (case side3 => repeat (first | exact (Kd.C_below HR0_6.out HB.out) | (with_reducible refine Kd.C_alloc ?_ _) | (with_reducible refine Kd.C_drewN ?_ _) | (with_reducible refine Kd.C_drew ?_))); (case side4 => exact HC0_6.out); rintro e w33 ⟨rfl, hb⟩; have n0_ := Aside0.mk (blk_below (g := gb101) (o := .cells #[.string a0_0, .int .i64 a0_1, .slice A0_2 l0_2.length c0_2, .int .i64 a0_3, .string a0_4, .string a0_5, .slice A0_6 l0_6.length c0_6] 42 (0, 0)) (by (with_reducible repeat (first | refine blk_drewN ?_ _ | refine blk_drew ?_ | refine blk_alloc ?_ _)); exact BK101.out) hb); have n1_ := Aside0.mk (blk_below (g := gb102) (o := .cells #[.string a1_0, .string a1_1] 44 (0, 0)) (by (with_reducible repeat (first | refine blk_drewN ?_ _ | refine blk_drew ?_ | refine blk_alloc ?_ _)); exact BK102.out) hb); have n2_ := Aside0.mk (below_step (by repeat (first | (with_reducible first | exact HB.out | apply below_alloc | apply pw_below_drewN | apply below_drew1 | refine below_set ?_ GE101.out | refine below_set ?_ GE102.out) | exact HB.out)) hb); clear BK101; clear BK102; clear HB; have BK101 := n0_; have BK102 := n1_; have HB := n2_; clear n0_ n1_ n2_; (try clear hb); (try clear hb2); (try clear hk); (try clear hi))))
                go_ret
                exact ⟨by first | rfl | (simp [errW_none, errW_some] <;> rfl) | (simp [*, errW_none, errW_some] <;> rfl), by repeat (first | (with_reducible first | exact HB.out | apply below_alloc | apply pw_below_drewN | apply below_drew1 | refine below_set ?_ GE101.out | refine below_set ?_ GE102.out) | exact HB.out)⟩
end Go.Proofs.YtigghbfcflnoeaaDoor.Y
end
section
namespace Go.Proofs.YtigghbfcflnoeaaDoor.Y
open Go.RowKit Go.Proofs.YtigghbfcflnoeaaDoorW.PrintWords Go.Proofs.YtigghbfcflnoeaaDoorW.PrintLast Go.Proofs.YtigghbfcflnoeaaDoorW.PrintMore
attribute [local go_sem] max2_int min2_int max_two min_two max_three min_three max_four min_four
set_option linter.unusedVariables false
set_option linter.unusedSimpArgs false
theorem tl1 (a : UInt8) : (⟨#[a]⟩ : ByteArray).toList = [a] := by rw [Lib.toList_data]
theorem tl0 : (⟨#[]⟩ : ByteArray).toList = [] := by rw [Lib.toList_data]
theorem userT : userB.toList = [117, 115, 101, 114] := by rw [Lib.toList_data]
theorem aN : nameIs ⟨#[97]⟩ = true := isN 97 (by rw [small_iff]; rfl) (by rw [inName_iff]; rfl) (resv1 _)
theorem dN : nameIs ⟨#[100]⟩ = true := isN 100 (by rw [small_iff]; rfl) (by rw [inName_iff]; rfl) (resv1 _)
theorem userN : nameIs userB = true := by
  have e1 : userB.toList = [117, 115, 101, 114] := userT
  have e2 : userB.size = 4 := rfl
  have e3 : (userB.extract 0 1).data.toList = [117] := by rw [Lib.extract_data]; rfl
  have hr : resv userB = false := by
    simp only [resv, Lib.toList_data, resD, resR, resP]
    simp
  have s1 : smallS.data.toList.contains 117 = true := by rw [small_iff]; rfl
  have i1 : inNameS.data.toList.contains 117 = true := by rw [inName_iff]; rfl
  have i2 : inNameS.data.toList.contains 115 = true := by rw [inName_iff]; rfl
  have i3 : inNameS.data.toList.contains 101 = true := by rw [inName_iff]; rfl
  have i4 : inNameS.data.toList.contains 114 = true := by rw [inName_iff]; rfl
  simp only [nameIs, e1, e2, e3, hr, hasL, List.all_cons, List.all_nil, s1, i1, i2, i3, i4]
  rfl
theorem w1 : wrap64 (0 + 1) = 1 := by unfold wrap64; omega
theorem right_u (k : Nat) : schema_member_1.f (k + 1) userB eB = some false := by
  simp [schema_member_1.f, schema_right.f, name_Allowed.f, name_Allowed.j0, name_Is.f, userN, tl0]
theorem has_u (k : Nat) : has137.f (k + 3) [tyU] = some false := by
  have h1 : idx137.l0 (k + 3) [tyU] 1 0 = some (-1) := by
    have h2 : rd_T44 [tyU] 0 = tyU := rfl
    rw [idx137.l0, if_pos (by omega), if_pos (by omega), if_pos (by simp), h2, right_u (k + 1)]
    rw [Option.bind_some, if_neg (by simp), w1, idx137.l0, if_neg (by omega)]
  show (idx137.l0 (k + 3) [tyU] 1 0).bind _ = _
  rw [h1]
  rfl
theorem same0 : expr_Same.f 0 eB eB [] 0 eB eB [] = some true := by
  have h : expr_Same.f 0 eB eB [] 0 eB eB [] = some (cmpE ⟨0, eB, eB, []⟩ ⟨0, eB, eB, []⟩ == 0) := rfl
  rw [h, cmpE_refl]
  rfl
theorem mb_A (k : Nat) : mbF (k + 3) (⟨#[100]⟩, mA) = some true := by
  show schema_member.f (k + 3) ⟨#[97]⟩ 1 [tyU] 0 eB eB [] = some true
  simp only [schema_member.f, name_Is.f, aN, has_u, same0, Option.bind_some, if_true]
  simp
theorem has_0 (k : Nat) : has137.f (k + 1) [] = some false := by
  have h1 : idx137.l0 (k + 1) [] 0 0 = some (-1) := by rw [idx137.l0, if_neg (by omega)]
  show (idx137.l0 (k + 1) [] 0 0).bind _ = _
  rw [h1]
  rfl
theorem mb_B (k : Nat) : mbF (k + 1) (⟨#[100]⟩, mB) = some false := by
  show schema_member.f (k + 1) ⟨#[97]⟩ 1 [] 0 eB eB [] = some false
  simp only [schema_member.f, name_Is.f, aN, has_0, Option.bind_some, if_true]
  simp
theorem form_A (k : Nat) : schema_Form.f (k + 3) [dA] = some true := by
  show formS (k + 3) [dA] = some true
  simp [formS, formD, dN, formM, allM, memD, mb_A]
theorem form_B (k : Nat) : schema_Form.f (k + 1) [dB] = some false := by
  show formS (k + 1) [dB] = some false
  simp [formS, formD, dN, formM, allM, memD, mb_B]
theorem eq_u (k : Nat) : api_Allowed_43.f (k + 2) [tyU] [tyU] = some true := by
  have h2 : rd_T44 [tyU] 0 = tyU := rfl
  show (if ((1 : Nat) : Int) = ((1 : Nat) : Int) then api_Allowed_43.l0 (k + 2) [tyU] [tyU] 1 0 else some false) = some true
  rw [if_pos rfl, api_Allowed_43.l0, if_pos (by omega), if_pos (by omega), if_pos (by simp), if_pos (by simp), h2, if_neg (by simp), w1, api_Allowed_43.l0, if_neg (by omega)]
theorem same_A (k : Nat) : schema_SameMember.f (k + 2) ⟨#[97]⟩ 1 [tyU] 0 eB eB [] ⟨#[97]⟩ 1 [tyU] 0 eB eB [] = some true := by
  simp only [schema_SameMember.f, if_true, eq_u, same0, Option.bind_some]
theorem eqm_A (k : Nat) : eqf64.f (k + 4) [mA] [mA] = some true := by
  have h2 : rd_T42 [mA] 0 = mA := rfl
  show (if ((1 : Nat) : Int) = ((1 : Nat) : Int) then eqf64.l0 (k + 4) [mA] [mA] 1 0 else some false) = some true
  rw [if_pos rfl, eqf64.l0, if_pos (by omega), if_pos (by omega), if_pos (by simp), if_pos (by simp), h2, same_A (k + 1), Option.bind_some, if_pos rfl, w1, eqf64.l0, if_neg (by omega)]
theorem eqd_A (k : Nat) : schema_Same.f (k + 6) [dA] [dA] = some true := by
  have h2 : rd_T81 [dA] 0 = dA := rfl
  have h3 : schema_Same_1.f (k + 5) dA.f0 dA.f1 dA.f0 dA.f1 = some true := by
    show (if _ then (eqf64.f (k + 5) [mA] [mA]).bind _ else _) = _
    rw [if_pos rfl, eqm_A (k + 1)]
    rfl
  show ((if ((1 : Nat) : Int) = ((1 : Nat) : Int) then eqf100.l0 (k + 6) [dA] [dA] 1 0 else some false).bind _) = some true
  rw [if_pos rfl, eqf100.l0, if_pos (by omega), if_pos (by omega), if_pos (by simp), if_pos (by simp), h2, h3, Option.bind_some, if_pos rfl, w1, eqf100.l0, if_neg (by omega)]
  rfl
theorem member_a : schema_Member.f [dA] ⟨#[100]⟩ ⟨#[97]⟩ = some (⟨#[97]⟩, 1, [tyU], 0, eB, eB, [], true) := by
  have h : memOf [dA] ⟨#[100]⟩ ⟨#[97]⟩ = some mA := by simp [memOf]
  simp only [schema_Member.f, h]
  rfl
theorem member_b : schema_Member.f [dA] ⟨#[100]⟩ ⟨#[98]⟩ = some (eB, 0, [], 0, eB, eB, [], false) := by
  have h : memOf [dA] ⟨#[100]⟩ ⟨#[98]⟩ = none := by simp [memOf, tl1]
  simp only [schema_Member.f, h]
  rfl
theorem count_A : schema_Count.f [dA] = some (1, 1, 0) := by
  simp [schema_Count.f, allM, memD, isRel, isPer]
theorem clone_0 (m : Nat) : expr_Clone.f (m + 2) 0 eB eB [] = some (0, eB, eB, []) := by
  have h : map60.f (m + 2) 0 eB eB [] = some (0, eB, eB, []) := by
    rw [map60.f]
    show map60.l0 (m + 1) [] [] 0 0 0 eB eB [] = _
    rw [map60.l0, if_neg (by omega)]
    rfl
  unfold expr_Clone.f
  rw [h]
  rfl
theorem clone_A : ∃ K, ∀ k, K ≤ k → schema_Clone.f k [dA] = some [dA] := by
  refine ⟨4, fun k hk => ?_⟩
  obtain ⟨m, rfl⟩ : ∃ m, k = m + 4 := ⟨k - 4, by omega⟩
  have h2 : rd_T81 [dA] 0 = dA := rfl
  have h3 : rd_T42 [mA] 0 = mA := rfl
  have h4 : api_Allowed_102.f [tyU] = some [tyU] := by simp [api_Allowed_102.f]
  have h5 : expr_Clone.f (m + 2) mA.f3.f0 mA.f3.f1 mA.f3.f2 mA.f3.f3 = some (0, eB, eB, []) := clone_0 m
  show schema_Clone.l0 (m + 4) [dA] 1 0 [] = _
  rw [schema_Clone.l0, if_pos (by omega), if_pos (by omega), if_pos (by simp), h2]
  show schema_Clone.l1 (m + 3) [dA] 1 0 [mA] 1 0 [] ⟨#[100]⟩ [] = _
  rw [schema_Clone.l1, if_pos (by omega), if_pos (by omega), if_pos (by simp), h3, h4, Option.bind_some, h5, Option.bind_some, if_pos (by simp), w1]
  rw [schema_Clone.l1, if_neg (by omega), if_pos (by simp), w1, schema_Clone.l0, if_neg (by omega)]
  rfl
theorem idx104 (t r : ByteArray) (l : List S44) (hl : l.length ≤ 9223372036854775806) : ∀ (n i : Nat), l.length - i = n → i ≤ l.length →
    ∃ z : Int, Ev (fun k => api_Allowed_104.l0 k l (l.length : Int) (i : Int) t r) z ∧ decide (z ≥ 0) = (l.drop i).any (fun x => t.toList == x.f0.toList && r.toList == x.f1.toList) := by
  intro n
  induction n with
  | zero =>
    intro i hn hi
    refine ⟨-1, Ev.step (f := fun _ => some (-1)) (fun k => ?_) (Ev.now _), ?_⟩
    · rw [api_Allowed_104.l0, if_neg (by omega)]
    · rw [List.drop_eq_nil_of_le (by omega)]; rfl
  | succ n ih =>
    intro i hn hi
    have hlt : i < l.length := by omega
    have hr : rd_T44 l (i : Int) = l[i] := by simp [rd_T44, List.getD_eq_getElem?_getD, List.getElem?_eq_getElem hlt]
    rw [List.drop_eq_getElem_cons hlt, List.any_cons]
    by_cases h : (t.toList == l[i].f0.toList && r.toList == l[i].f1.toList) = true
    · refine ⟨(i : Int), Ev.step (f := fun _ => some (i : Int)) (fun k => ?_) (Ev.now _), ?_⟩
      · rw [api_Allowed_104.l0, if_pos (by omega), if_pos (by omega), if_pos (by omega), hr, if_pos h]
      · rw [h, Bool.true_or]; exact decide_eq_true (by omega)
    · obtain ⟨z, hz1, hz2⟩ := ih (i + 1) (by omega) (by omega)
      refine ⟨z, Ev.step (fun k => ?_) hz1, ?_⟩
      · rw [api_Allowed_104.l0, if_pos (by omega), if_pos (by omega), if_pos (by omega), hr, if_neg h, wrap_ok (by omega) (by omega)]
        rfl
      · rw [hz2, Bool.eq_false_iff.mpr h, Bool.false_or]
theorem has68 (t r : ByteArray) (l : List S44) (hl : l.length ≤ 9223372036854775806) : Ev (fun k => api_Allowed_68.f k l t r) (l.any (fun x => t.toList == x.f0.toList && r.toList == x.f1.toList)) := by
  obtain ⟨z, h1, h2⟩ := idx104 t r l hl l.length 0 (by omega) (by omega)
  rw [List.drop_zero] at h2
  rw [← h2]
  unfold api_Allowed_68.f
  exact Ev.bind (show Ev (fun k => api_Allowed_104.f k l t r) z from h1) (Ev.now _)
theorem allows_ev (a0 : ByteArray) (a1 : Int) (l : List S44) (a3 : Int) (a4 a5 : ByteArray) (l6 : List S24) (t r : ByteArray) (hl : l.length ≤ 9223372036854775806) :
    Ev (fun k => schema_Allows.f k a0 a1 l a3 a4 a5 l6 t r) (if a1 = 1 then l.any (fun x => t.toList == x.f0.toList && r.toList == x.f1.toList) else false) := by
  unfold schema_Allows.f
  by_cases h : a1 = 1
  · simp only [h, if_true]
    exact Ev.bind (has68 t r l hl) (Ev.now _)
  · simp only [h, if_false]
    exact Ev.now _
theorem awake11_ev : Ev (fun k => vestrylaw11_awake.f k) true := by
  obtain ⟨K1, h1⟩ := clone_A
  obtain ⟨K2, h2⟩ := allows_ev ⟨#[97]⟩ 1 [tyU] 0 eB eB [] userB eB (by simp)
  refine ⟨K1 + K2 + 8, fun k hk => ?_⟩
  obtain ⟨m, rfl⟩ : ∃ m, k = m + 6 := ⟨k - 6, by omega⟩
  have e1 := h1 (m + 6) (by omega)
  have e2 := h2 (m + 6) (by omega)
  simp only [if_true, List.any_cons, BEq.rfl, Bool.and_self, Bool.true_or] at e2
  have hh : awk11t.f (m + 6) ⟨#[97]⟩ 1 [tyU] 0 eB eB [] [dA] [dB] = some true := by
    unfold awk11t.f
    rw [member_a, Option.bind_some, member_b, Option.bind_some, count_A, Option.bind_some, form_A (m + 3), Option.bind_some, if_pos rfl, form_B (m + 5), Option.bind_some, if_neg (by simp)]
    simp only [if_true, if_false, same_A, Option.bind_some, e1, eqd_A, schema_Members.f, Bool.false_eq_true]
    rw [e2]
    rfl
  simp only [vestrylaw11_awake.f, hh, Option.bind_some, if_true]
theorem any_flip (l : List S44) (t r : ByteArray) : l.any (fun x => t.toList == x.f0.toList && r.toList == x.f1.toList) = l.any (fun x => x.f0.toList == t.toList && (x.f1.toList == r.toList)) := by
  congr 1
  funext x
  rw [show (t.toList == x.f0.toList) = (x.f0.toList == t.toList) from Bool.beq_comm, show (r.toList == x.f1.toList) = (x.f1.toList == r.toList) from Bool.beq_comm]
theorem law8_ev (m : S42) (a : S44) : Ev (fun k => vestrylaw11_SchemaAllows.f k m.f0 m.f1 m.f2 m.f3.f0 m.f3.f1 m.f3.f2 m.f3.f3 a.f0 a.f1) true := by
  unfold vestrylaw11_SchemaAllows.f
  refine Ev.bind awake11_ev ?_
  refine Ev.yes (rfl) ?_
  by_cases h : m.f2.length ≤ 100
  · rw [show decide ((m.f2.length : Int) > 100) = false from decide_eq_false (by omega)]
    refine Ev.step (fun k => by rw [vestrylaw11_SchemaAllows.j0, if_neg (by simp)]) ?_
    have ha := allows_ev m.f0 m.f1 m.f2 m.f3.f0 m.f3.f1 m.f3.f2 m.f3.f3 a.f0 a.f1 (by omega)
    rw [any_flip] at ha
    have key : ∀ n i : Nat, m.f2.length - i = n → i ≤ m.f2.length → Ev (fun k => vestrylaw11_SchemaAllows.l0 k ((m.f2.take i).any (fun x => x.f0.toList == a.f0.toList && (x.f1.toList == a.f1.toList))) (i : Int) m.f0 m.f1 m.f2 m.f3.f0 m.f3.f1 m.f3.f2 m.f3.f3 a.f0 a.f1) true := by
      intro n
      induction n with
      | zero =>
        intro i hn hi
        rw [List.take_of_length_le (by omega)]
        refine Ev.step (fun k => by rw [vestrylaw11_SchemaAllows.l0, if_neg (by omega)]) (Ev.bind ha ?_)
        cases hq : m.f2.any (fun x => x.f0.toList == a.f0.toList && (x.f1.toList == a.f1.toList)) with
        | true =>
          simp only [if_true]
          by_cases h1 : m.f1 = 1
          · rw [if_pos h1, show (m.f1 == 1) = true from beq_iff_eq.mpr h1]; exact Ev.now _
          · rw [if_neg h1, show (m.f1 == 1) = false by simpa using h1]; exact Ev.now _
        | false =>
          simp only [Bool.false_eq_true, if_false, ite_self]
          exact Ev.now _
      | succ n ih =>
        intro i hn hi
        have hlt : i < m.f2.length := by omega
        have hr : rd_T44 m.f2 (i : Int) = m.f2[i] := by simp [rd_T44, List.getD_eq_getElem?_getD, List.getElem?_eq_getElem hlt]
        have hnext := ih (i + 1) (by omega) (by omega)
        rw [List.take_succ_eq_append_getElem hlt, List.any_append] at hnext
        simp only [List.any_cons, List.any_nil, Bool.or_false] at hnext
        cases hq : (m.f2.take i).any (fun x => x.f0.toList == a.f0.toList && (x.f1.toList == a.f1.toList)) with
        | true =>
          rw [hq, Bool.true_or] at hnext
          refine Ev.step (fun k => ?_) hnext
          rw [vestrylaw11_SchemaAllows.l0, if_pos (by omega), if_pos rfl, wrap_ok (by omega) (by omega)]
          rfl
        | false =>
          rw [hq, Bool.false_or] at hnext
          refine Ev.step (fun k => ?_) hnext
          rw [vestrylaw11_SchemaAllows.l0, if_pos (by omega), if_neg (by simp), if_pos (by omega), hr, wrap_ok (by omega) (by omega)]
          rfl
    exact key m.f2.length 0 (by omega) (by omega)
  · rw [show decide ((m.f2.length : Int) > 100) = true from decide_eq_true (by omega)]
    refine Ev.step (fun k => by rw [vestrylaw11_SchemaAllows.j0, if_pos rfl]) ?_
    exact Ev.bind awake11_ev (Ev.now _)
end Go.Proofs.YtigghbfcflnoeaaDoor.Y
end
