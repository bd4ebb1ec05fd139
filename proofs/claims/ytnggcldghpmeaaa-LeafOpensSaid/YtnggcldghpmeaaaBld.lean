/- Struct and slice literals with parts of many cells: laws over any program. -/
import Derived.Test.YtnggcldghpmeaaaSeq2
import Derived.Great.BuildSlice
set_option linter.unusedVariables false
set_option maxRecDepth 100000
namespace Go.Proofs.Ytnggcldghpmeaaa
open Go.RowKit
section
variable {P : Program} {ops : Array Oper} {Q : Exit → Act → World → Prop} {S : World → Prop}
theorem foldl_put (off : Nat) (v cells : Array Value) (h : off + v.size ≤ cells.size) :
    v.zipIdx.foldl (fun cs (x : Value × Nat) => cs.setIfInBounds (off + x.2) x.1) cells = (cells.toList.take off ++ v.toList ++ cells.toList.drop (off + v.size)).toArray := by
  obtain ⟨h1, h2⟩ := Great.foldl_set off v.toList 0 cells
  rw [← Array.foldl_toList, Array.toList_zipIdx]
  apply Array.ext_getElem?
  intro k
  rw [h2 k]
  simp only [Nat.add_zero, List.getElem?_toArray, Array.length_toList]
  have e1 : (cells.toList.take off).length = off := by simp; omega
  by_cases hk : k < off
  · rw [if_neg (by omega), List.append_assoc, List.getElem?_append_left (by omega), List.getElem?_take, if_pos hk]
    simp
  · by_cases hk2 : k < off + v.size
    · rw [if_pos (by omega), List.getElem?_append_left (by simp; omega), List.getElem?_append_right (by omega), e1]
    · rw [if_neg (by omega), List.getElem?_append_right (by simp; omega), List.getElem?_drop]
      have e2 : off + v.size + (k - (List.take off cells.toList ++ v.toList).length) = k := by simp; omega
      rw [e2]; simp
/-- Two fields that fill a struct. -/
theorem fill_two (cells a b : Array Value) (place : Nat → Option (Nat × Nat)) (va vb : Value) (ha : va.cells = a) (hb : vb.cells = b) (h0 : place 0 = some (0, a.size)) (h1 : place 1 = some (a.size, b.size)) (hs : cells.size = a.size + b.size) :
    Instr.fill place cells [(0, va), (1, vb)] = some (a.toList ++ b.toList).toArray := by
  unfold Instr.fill
  simp only [h0, ha]
  rw [if_neg (by simp; omega)]
  unfold Instr.fill
  simp only [h1, hb]
  rw [foldl_put 0 a cells (by omega)]
  have e : (cells.toList.take 0 ++ a.toList ++ cells.toList.drop (0 + a.size)) = a.toList ++ cells.toList.drop a.size := by simp
  rw [e]
  have e1 : (a.toList ++ cells.toList.drop a.size).toArray.size = a.size + b.size := by simp; omega
  rw [if_neg (by rw [e1]; simp)]
  unfold Instr.fill
  rw [foldl_put a.size b _ (by rw [e1]; omega)]
  have e2 : (a.toList ++ cells.toList.drop a.size).toArray.toList.drop (a.size + b.size) = [] := List.drop_eq_nil_of_le (by rw [Array.length_toList, e1]; exact Nat.le_refl _)
  have e3 : (a.toList ++ cells.toList.drop a.size).toArray.toList.take a.size = a.toList := by
    show (a.toList ++ cells.toList.drop a.size).take a.size = a.toList
    rw [List.take_append_of_le_length (by simp), List.take_of_length_le (by simp)]
  rw [e2, e3, List.append_nil]
theorem run_buildOp {o : Oper} {a : Act} {w : World} (t : TypeId) (parts : Array (Nat × Operand)) (ho : o.op = .build t parts) (vs : Array (Nat × Value)) (hvs : (parts.toList.map fun x => (x.1, a.eval x.2)) = vs.toList) (v : Value)
    (h : (Instr.build t vs).run P w = .ok v w) : (execOp a.eval o).run P w = .ok (.value v) w := by
  have hvs : (parts.map fun (i, x) => (i, a.eval x)) = vs := by
    apply Array.toList_inj.1
    rw [Array.toList_map, ← hvs]
  subst hvs
  unfold execOp
  simp only [ho, Sem.run_bind, h, Result.andThen_ok, Sem.run_pure]
/-- A slice literal of one element of many cells. -/
theorem wp_buildOne {w : World} {o : Oper} {a : Act} {K : Act → World → Prop} (t e : TypeId) (parts : Array (Nat × Operand)) (ho : o.op = .buildSlice t 1 parts) (cs : Array Value) (hp : (parts.toList.map fun x => (x.1, a.eval x.2)) = [(0, .agg cs)])
    {ie : TypeInfo} {z : Value} {size : Nat} (hu : P.underlying t = some (.slice e)) (hie : P.info? e = some ie) (hz : ie.zero = some z) (hsz : ie.size = size) (hc : cs.size = size) (h0 : 0 < size) (hs : size ≤ 1000)
    (h : K (a.put o.dst (.slice (some ⟨w.heap.size, 0, none⟩) 1 1)) (w.alloc (.cells cs e))) : o.wp P a w K Q := by
  have hp : (parts.map fun (i, x) => (i, a.eval x)) = #[(0, .agg cs)] := by
    apply Array.toList_inj.1
    rw [Array.toList_map, ← hp]
  refine wp_buildSlice t e 1 parts ho cs ie z hu hie hz (by omega) (by omega) ?_ h
  rw [hp]
  have := Great.fill_whole (s := ie.size) (by omega) [.agg cs] ((Array.range (1 * ie.size)).map (z.cells[· % z.cells.size]!)) (by intro v hv; simp at hv; subst hv; simp [Value.cells]; omega) (by simp)
  simpa [Value.cells] using this
end
end Go.Proofs.Ytnggcldghpmeaaa
