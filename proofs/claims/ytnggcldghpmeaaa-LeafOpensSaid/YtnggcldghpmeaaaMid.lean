/- Reads and writes of a small row that lies amid a block: an array or a struct as an element or a field. -/
import Derived.Test.YtnggcldghpmeaaaSeq
import Derived.Deep.MidRow
set_option linter.unusedVariables false
set_option maxRecDepth 100000
namespace Go.Proofs.Ytnggcldghpmeaaa
open Go.RowKit
section
variable {P : Program} {ops : Array Oper} {Q : Exit → Act → World → Prop} {S : World → Prop}
/-- The cells from an address on. -/
structure At (w : World) (ad : Addr) (cs : List Value) : Prop where
  out : ∀ (j : Nat) (v : Value), cs[j]? = some v → w.cell? (ad.add j) = some v
theorem At.ext {w w' : World} {ad : Addr} {cs : List Value} (h : At w ad cs) (e : Ext w w') : At w' ad cs := ⟨fun j v hv => e.cells (h.out j v hv)⟩
theorem At.dr1 {w : World} {ad : Addr} {cs : List Value} (h : At w ad cs) : At w.drew ad cs := ⟨h.out⟩
theorem At.of {w : World} {ad : Addr} {xs : List Value} (h : Rd w (some ad) xs) : At w ad xs := by
  refine ⟨fun j v hv => ?_⟩
  obtain ⟨hj, rfl⟩ := List.getElem?_eq_some_iff.1 hv
  obtain ⟨ad', e, hc⟩ := h.at_ j hj
  cases e
  exact hc
theorem At.take {w : World} {ad : Addr} {cs : List Value} (h : At w ad cs) (n : Nat) : At w ad (cs.take n) :=
  ⟨fun j v hv => h.out j v (by rw [List.getElem?_take] at hv; split at hv; exact hv; cases hv)⟩
theorem At.drop {w : World} {ad : Addr} {cs : List Value} (h : At w ad cs) (n : Nat) : At w (ad.add n) (cs.drop n) :=
  ⟨fun j v hv => by rw [Addr.add_add]; exact h.out (n + j) v (by rw [List.getElem?_drop] at hv; exact hv)⟩
theorem At.rd {w : World} {ad : Addr} {cs : List Value} (h : At w ad cs) : Rd w (some ad) cs := Rd.of_cells h.out
theorem At.blk {w : World} {g : Nat} {t : TypeId} {cs : Array Value} (h : Blk w g t cs) : At w ⟨g, 0, none⟩ cs.toList :=
  ⟨fun j v hv => by
    have : (⟨g, 0, none⟩ : Addr).add j = ⟨g, j, none⟩ := by
      unfold Addr.add; by_cases hj : j = 0 <;> simp [hj]
    rw [this, h.cell j]; simpa using hv⟩
theorem run_loadVar_at (w : World) (ad : Addr) (ty : TypeId) (cs : List Value) (d : TypeDesc) (hc : At w ad cs)
    (hu : P.underlying ty = some d) (hd : (match d with | .struct _ | .array _ _ => true | _ => false) = true) (hi : (P.info? ty).map (·.size) = some cs.length) :
    (loadVar ty ad).run P w = .ok (.agg cs.toArray) w := by
  have hl : (loadCells ad cs.length).run P w = .ok cs.toArray w := run_loadCells_list (P := P) w ad cs hc.out
  cases hq : P.info? ty with
  | none => simp [hq] at hi
  | some i =>
    have hs : i.size = cs.length := by simpa [hq] using hi
    have hagg : (isAgg ty).run P w = .ok true w := by
      unfold isAgg
      rw [Sem.run_bind, run_underlying hu w]
      cases d <;> simp_all
    simp [loadVar, Sem.run_bind, hagg, sizeOf, typeInfo, hq, hs, hl]
theorem run_loadOp {o : Oper} {a : Act} {w : World} (ty : TypeId) (x : Operand) (ho : o.op = .load ty x) {ad : Addr} (hx : a.eval x = .pointer (some ad)) (cs : List Value) {d : TypeDesc} (hc : At w ad cs)
    (hu : P.underlying ty = some d) (hd : (match d with | .struct _ | .array _ _ => true | _ => false) = true) (hi : (P.info? ty).map (·.size) = some cs.length) :
    (execOp a.eval o).run P w = .ok (.value (.agg cs.toArray)) w := by
  unfold execOp
  simp only [ho, hx, Instr.loadAt, Instr.sureAddr, Sem.run_bind, Sem.run_pure, Result.andThen_ok, run_loadVar_at w ad ty cs d hc hu hd hi]
theorem wp_loadAt {w : World} {o : Oper} {a : Act} {K : Act → World → Prop} (ty : TypeId) (x : Operand) (ho : o.op = .load ty x) {ad : Addr} (hx : a.eval x = .pointer (some ad)) (cs : List Value) {d : TypeDesc} (hc : At w ad cs)
    (hu : P.underlying ty = some d) (hd : (match d with | .struct _ | .array _ _ => true | _ => false) = true) (hi : (P.info? ty).map (·.size) = some cs.length)
    (h : K (a.put o.dst (.agg cs.toArray)) w) : o.wp P a w K Q := by
  unfold Oper.wp
  rw [run_loadOp ty x ho hx cs hc hu hd hi]
  exact h
theorem seq_loadAt {i : Nat} {r : List Nat} {o : Oper} {a : Act} {w : World} (ho : ops[i]? = some o) (ty : TypeId) (x : Operand) (hop : o.op = .load ty x)
    (hw : Region.wanted o (yielded ops a.tmps) = true) {ad : Addr} (hx : a.eval x = .pointer (some ad)) (cs : List Value) {d : TypeDesc} (hc : ∀ W, S W → At W ad cs)
    (hu : P.underlying ty = some d) (hd : (match d with | .struct _ | .array _ _ => true | _ => false) = true) (hi : (P.info? ty).map (·.size) = some cs.length)
    (h : Seq P ops Q S r (a.put o.dst (.agg cs.toArray)) w) : Seq P ops Q S (i :: r) a w :=
  seq_take ho (by rw [hop]; rfl) hw (fun W hW => run_loadOp ty x hop hx cs (hc W hW) hu hd hi) h
/-- append, as an op by itself. -/
theorem wp_app {w : World} {o : Oper} {a : Act} {K : Act → World → Prop} (s x : Operand) (t : TypeId)
    (ho : o.op = .call { callee := .builtin .append, args := #[s, x], argTypes := #[t, t] })
    {B : Nat} {e : TypeId} {i : TypeInfo} {z : Value} {size bytes : Nat} (ht : P.underlying t = some (.slice e)) (hi : P.info? e = some i) (hz : i.zero = some z)
    (hsize : i.size = size) (hby : i.bytes = bytes) (hzs : z.cells.size = size) (hsz : 0 < size)
    {A : Option Addr} {n c : Nat} {xs : List Value} (hs : a.eval s = .slice A n c) (hown : Own w B e size A n c xs)
    {A2 : Option Addr} {m c2 : Nat} {ys : List Value} (hx : a.eval x = .slice A2 m c2) (hl : ys.length = m * size) (hr : Rd w A2 ys) (h1 : ∀ u ∈ ys, u.oneCell' = true)
    (h63 : n + m ≤ maxLen) (hbytes : (n + m) * bytes ≤ 140737488355328) (hB : B ≤ w.heap.size)
    (h : ∀ A' c' w', Own w' B e size A' (n + m) c' (xs ++ ys) → w.grownBy w' (Value.slice A n c).ownBlock → K (a.put o.dst (.slice A' (n + m) c')) w') : o.wp P a w K Q := by
  obtain ⟨A', c', w', hrun, h2, h3⟩ := run_app (P := P) (ty := o.type) (c2 := c2) ht hi hz hsize hby hzs hsz hown hl hr h1 h63 hbytes hB
  unfold Oper.wp execOp
  simp only [ho, resolve, invoke, builtin, Sem.run_bind, Sem.run_pure, Result.andThen_ok, List.map_toArray, List.map_cons, List.map_nil, hs, hx, hrun]
  exact h A' c' w' h2 h3
/-- A variable that was just made, written whole: its block's number by an equation. -/
theorem wpl_fresh2 {w : World} {rest : List Oper} {o : Oper} {a : Act} (hgd : o.guard = none) (ty : TypeId) (x y : Operand) (ho : o.op = .store ty x y)
    {z cs' : Array Value} {b : Nat} (hx : a.eval x = .pointer (some ⟨b, 0, none⟩)) (hb : b = w.heap.size) (hy : a.eval y = .agg cs')
    (hi : (P.info? ty).map (·.size) = some cs'.size) (hz : z.size = cs'.size) (h1 : cs'.all (·.oneCell') = true)
    (h : ∀ w', Ext w w' → Blk w' b ty cs' → w'.heap.size = w.heap.size + 1 → wpList P ops Q rest (a.put o.dst undef) w') : wpList P ops Q (o :: rest) a (w.alloc (.cells z ty)) := by
  subst hb
  exact wpl_fresh hgd ty x y ho hx hy hi hz h1 h
end
end Go.Proofs.Ytnggcldghpmeaaa
