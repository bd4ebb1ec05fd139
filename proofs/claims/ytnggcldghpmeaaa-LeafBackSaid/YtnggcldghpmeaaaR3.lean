/- A law's row: opening a node. -/
import Derived.Test.YtnggcldghpmeaaaR1
import Derived.Test.YtnggcldghpmeaaaL5
import Derived.Deep.SlicePairs
import Derived.Deep.Strs
set_option linter.unusedVariables false
set_option linter.unusedSimpArgs false
set_option maxRecDepth 100000
namespace Go.Proofs.Ytnggcldghpmeaaa
open Go.ChangeShapes Go.WideShapes Go.ChangeAt Go.RowKit Go.Deep
section
variable {H : Type} {enc : TypeId × Value → H} {P : Program} {w : World} {base : Nat} {spare : Nat → Bool} {held : Bool}
/-- An array of numbers among cells. -/
theorem open_nums {t e : TypeId} {n fuel : Nat} {k : IntKind} {cs : List Value} {x : DataW H × List MemPlace} (ht : P.underlying t = some (.array n e)) (he : P.underlying e = some (.int k)) (hc : P.cellsOf e = 1) (hl : cs.length = n)
    (h : DataW.trod enc P w base spare held fuel t cs = some x) : ∃ zs : List Int, cs = zs.map (Value.int k) ∧ zs.length = n ∧ ∀ z ∈ zs, (Lit.int k z).wf = true := by
  obtain ⟨xs, m, _, _, hxl, hx, hel⟩ := DataW.trod_array ht h
  have key : ∀ (i : Nat) (hi : i < cs.length), ∃ z, cs[i] = .int k z ∧ (Lit.int k z).wf = true := by
    intro i hi
    have h1 := hel i (by omega)
    rw [hc] at h1
    obtain ⟨x, hx'⟩ : ∃ x, xs[i]? = some x := ⟨xs[i]'(by omega), by simp⟩
    rw [hx'] at h1
    obtain ⟨z, hz, _, hw⟩ := DataW.trod_int he h1
    refine ⟨z, ?_, hw⟩
    have h2 : ((cs.drop (i * 1)).take 1) = [cs[i]] := by
      rw [Nat.mul_one, List.drop_eq_getElem_cons hi]
      rfl
    rw [h2] at hz
    simpa using hz
  refine ⟨cs.map (fun v => match v with | .int _ z => z | _ => 0), ?_, by simp [hl], ?_⟩
  · apply List.ext_getElem
    · simp
    · intro i h1 h2
      obtain ⟨z, hz, _⟩ := key i h1
      simp [hz]
  · intro z hz
    simp only [List.mem_map] at hz
    obtain ⟨v, hv, rfl⟩ := hz
    obtain ⟨i, hi, rfl⟩ := List.getElem_of_mem hv
    obtain ⟨z, hz, hw⟩ := key i hi
    simp only [hz]
    exact hw
/-- A slice of pairs of numbers among cells. -/
theorem open_ents {t e : TypeId} {f0 f1 : Field} {fuel : Nat} {cs : List Value} {x : DataW H × List MemPlace} (ht : P.underlying t = some (.slice e)) (he : P.underlying e = some (.struct #[f0, f1]))
    (ce : P.cellsOf e = 2) (o0 : f0.offset = 0) (o1 : f1.offset = 1) (c0 : P.cellsOf f0.type = 1) (c1 : P.cellsOf f1.type = 1) (t0 : P.underlying f0.type = some (.int .i64)) (t1 : P.underlying f1.type = some (.int .i64))
    (h : DataW.trod enc P w base spare held fuel t cs = some x) : ∃ (A : Option Addr) (c : Nat) (l : List (Int × Int)), cs = [.slice A l.length c] ∧ Rd w A (EV l) ∧ l.length ≤ c ∧ c ≤ maxLen := by
  rcases open_slice_pairs ht he ce o0 o1 c0 c1 h with ⟨rfl, _⟩ | ⟨a, len, cap, m, n, V0, V1, D0, D1, P0, P1, rfl, _, hlc, hcm, hm, _, hall⟩
  · exact ⟨none, 0, [], rfl, Rd.nil, by simp, by simp⟩
  · have hlm : len ≤ m := by rw [hm]; split <;> omega
    have num : ∀ (V : Nat → Value) (D : Nat → DataW H) (Pl : Nat → List MemPlace) (ti : TypeId), P.underlying ti = some (.int .i64) → (∀ i, i < m → DataW.trod enc P w base spare held n ti [V i] = some (D i, Pl i)) → ∀ i, i < m → ∃ z, V i = .int .i64 z := by
      intro V D Pl ti hti hv i hi
      obtain ⟨z, hz, _⟩ := DataW.trod_int hti (hv i hi)
      exact ⟨z, by simpa using hz⟩
    have n0 := num V0 D0 P0 f0.type t0 (fun i hi => (hall i hi).2.2.1)
    have n1 := num V1 D1 P1 f1.type t1 (fun i hi => (hall i hi).2.2.2)
    obtain ⟨g0, hg0⟩ : ∃ g : Nat → Int, ∀ i, i < m → V0 i = .int .i64 (g i) := ⟨fun i => match V0 i with | .int _ z => z | _ => 0, fun i hi => by obtain ⟨z, hz⟩ := n0 i hi; simp [hz]⟩
    obtain ⟨g1, hg1⟩ : ∃ g : Nat → Int, ∀ i, i < m → V1 i = .int .i64 (g i) := ⟨fun i => match V1 i with | .int _ z => z | _ => 0, fun i hi => by obtain ⟨z, hz⟩ := n1 i hi; simp [hz]⟩
    refine ⟨some a, cap, (List.range len).map fun i => (g0 i, g1 i), by simp, ?_, by simpa using hlc, hcm⟩
    refine Rd.of_cells fun j u hu => ?_
    have hj : j < 2 * len := by
      have := (List.getElem?_eq_some_iff.1 hu).1
      rw [EV_length] at this
      simp at this
      omega
    obtain ⟨i, r, hr, rfl⟩ : ∃ i r, r < 2 ∧ j = i * 2 + r := ⟨j / 2, j % 2, Nat.mod_lt _ (by omega), by omega⟩
    have hi : i < len := by omega
    have hd := EV_drop ((List.range len).map fun i => (g0 i, g1 i)) i (by simpa using hi)
    simp only [List.getElem_map, List.getElem_range] at hd
    have h1 : (((EV ((List.range len).map fun i => (g0 i, g1 i))).drop (i * 2)).take 2)[r]? = some u := by
      rw [List.getElem?_take, if_pos hr, List.getElem?_drop]
      exact hu
    rw [hd] at h1
    obtain ⟨e0, e1, _, _⟩ := hall i (by omega)
    rw [hg0 i (by omega)] at e0
    rw [hg1 i (by omega)] at e1
    match r, hr with
    | 0, _ => simp at h1; subst h1; simpa using e0
    | 1, _ => simp at h1; subst h1; exact e1
end
theorem co50 : Try.prog.cellsOf 50 = 18 := by kernel_rfl
theorem co47 : Try.prog.cellsOf 47 = 16 := by kernel_rfl
theorem co48 : Try.prog.cellsOf 48 = 1 := by kernel_rfl
theorem co60 : Try.prog.cellsOf 60 = 2 := by kernel_rfl
theorem co3 : Try.prog.cellsOf 3 = 1 := by kernel_rfl
/-- A node, by value. -/
theorem open_node {H : Type} {enc : TypeId × Value → H} {r : Reach} {b0 : Nat} {w : World} {base : Nat} {spare : Nat → Bool} {held : Bool} {v : Value} {d : DataW H} {ps : List MemPlace}
    (hv : Value.okWide Try.prog w r b0 50 v) (h : DataW.Trod enc Try.prog w base spare held 50 v d ps) :
    ∃ (k : Int) (b : List UInt8) (A : Option Addr) (c : Nat) (l : List (Int × Int)), v = .agg (NV k b A l.length c) ∧ b.length = 16 ∧ Rd w A (EV l) ∧ l.length ≤ maxLen := by
  unfold Value.okWide at hv
  rw [Try.underlying50] at hv
  obtain ⟨cs, rfl, hsz, _⟩ := hv
  obtain ⟨fuel, hf⟩ := h
  have h3 : (Value.agg cs).cells.toList = cs.toList := rfl
  rw [h3] at hf
  rw [co50] at hsz
  obtain ⟨y0, y1, y2, n, _, hl, g0, g1, g2⟩ := trod_struct3 Try.underlying50 hf
  simp only [co3, co47, co48] at g0 g1 g2
  obtain ⟨k, hk, _, _⟩ := DataW.trod_int Try.underlying3 g0
  obtain ⟨zs, hz, hzl, hzw⟩ := open_nums Try.underlying47 Try.underlying5 co5 (by simp [hsz]) g1
  obtain ⟨b, hb, hbl⟩ := bytes_of hzw
  obtain ⟨A, c, l, hs, hr, hlc, hcm⟩ := open_ents Try.underlying48 Try.underlying60 co60 rfl rfl co3 co3 Try.underlying3 Try.underlying3 g2
  refine ⟨k, b, A, c, l, ?_, by omega, hr, by omega⟩
  congr 1
  rw [hb] at hz
  have e : cs.toList = (cs.toList.take 1) ++ ((cs.toList.drop 1).take 16 ++ (cs.toList.drop 17)) := by
    have e1 : cs.toList.drop 17 = (cs.toList.drop 1).drop 16 := by rw [List.drop_drop]
    rw [e1, List.take_append_drop, List.take_append_drop]
  have e2 : cs.toList.drop 17 = (cs.toList.drop 17).take 1 := (List.take_of_length_le (by simp [hsz])).symm
  have hk' : cs.toList.take 1 = [.int .i64 k] := by simpa using hk
  have hz' : (cs.toList.drop 1).take 16 = BV b := by simpa using hz
  have hs' : (cs.toList.drop 17).take 1 = [.slice A l.length c] := by simpa using hs
  apply Array.toList_inj.1
  rw [e, e2, hk', hz', hs']
  unfold NV
  simp
theorem read50 : Try.prog.readableRec 50 = true ∧ 50 < Try.prog.types.size := ⟨by kernel_rfl, of_decide_eq_true (by kernel_rfl)⟩
theorem read3 : Try.prog.readableRec 3 = true ∧ 3 < Try.prog.types.size := ⟨by kernel_rfl, of_decide_eq_true (by kernel_rfl)⟩
end Go.Proofs.Ytnggcldghpmeaaa
