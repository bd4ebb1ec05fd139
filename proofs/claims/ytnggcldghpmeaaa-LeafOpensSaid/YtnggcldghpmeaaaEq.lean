/- Arrays of bytes, compared and indexed: laws over any program. -/
import Derived.Test.YtnggcldghpmeaaaBits
import Derived.ChangeKeysEq
set_option linter.unusedVariables false
set_option linter.unusedSimpArgs false
set_option maxRecDepth 100000
namespace Go.Proofs.Ytnggcldghpmeaaa
open Go.RowKit
section
variable {P : Program}
theorem run_part1 (w : World) {e : TypeId} {d : TypeDesc} (hu : P.underlying e = some d) (hd : (match d with | .struct _ | .array _ _ => true | _ => false) = false) (cs : Array Value) (k : Nat) (h : k < cs.size) :
    (part e cs k).run P w = .ok cs[k] w := by
  have hagg : (isAgg e).run P w = .ok false w := by
    unfold isAgg
    rw [Sem.run_bind, run_underlying hu w]
    cases d <;> simp_all
  simp [part, Sem.run_bind, hagg, h]
theorem run_eqItems_bytes (w : World) (d : Nat) {e : TypeId} (he : P.underlying e = some (.int .u8)) (a b : List UInt8) (n : Nat) (ha : a.length = n) (hb : b.length = n) :
    ∀ m k, k + m = n → (Op.eqItems (d + 1) e 1 (BV a).toArray (BV b).toArray (List.range' k m)).run P w = .ok (decide (a.drop k = b.drop k)) w
  | 0, k, h => by
    have e1 : a.drop k = [] := List.drop_eq_nil_of_le (by omega)
    have e2 : b.drop k = [] := List.drop_eq_nil_of_le (by omega)
    simp [Op.eqItems, e1, e2]
  | m + 1, k, h => by
    have hka : k < a.length := by omega
    have hkb : k < b.length := by omega
    have ih := run_eqItems_bytes w d he a b n ha hb m (k + 1) (by omega)
    have p1 := run_part1 (P := P) w he rfl (BV a).toArray k (by simpa [BV_length] using hka)
    have p2 := run_part1 (P := P) w he rfl (BV b).toArray k (by simpa [BV_length] using hkb)
    have ea : (BV a).toArray[k]'(by simpa [BV_length] using hka) = .int .u8 (a[k].toNat : Int) := by simp [BV, bv]
    have eb : (BV b).toArray[k]'(by simpa [BV_length] using hkb) = .int .u8 (b[k].toNat : Int) := by simp [BV, bv]
    rw [ea] at p1
    rw [eb] at p2
    have p3 := run_equalIn_int (P := P) w d e .u8 .u8 (a[k].toNat : Int) (b[k].toNat : Int) he
    rw [List.range'_succ]
    simp only [Op.eqItems, Sem.run_bind, Nat.mul_one, p1, p2, p3, Result.andThen_ok]
    have dk : (a.drop k = b.drop k) = (a[k] = b[k] ∧ a.drop (k + 1) = b.drop (k + 1)) := by rw [List.drop_eq_getElem_cons hka, List.drop_eq_getElem_cons hkb]; simp only [List.cons.injEq]
    simp only [dk]
    by_cases hq : a[k] = b[k]
    · have : ((a[k].toNat : Int) == (b[k].toNat : Int)) = true := by rw [hq]; simp
      simp [this, ih, hq]
    · have : ((a[k].toNat : Int) == (b[k].toNat : Int)) = false := by
        rw [beq_eq_false_iff_ne]
        intro h2
        exact hq (UInt8.toNat_inj.1 (by omega))
      simp [this, hq]
theorem run_eq_bytes (w : World) (d : Nat) {t e : TypeId} {n : Nat} {i : TypeInfo} (hu : P.underlying t = some (.array n e)) (hi : P.info? e = some i) (hc : P.cellsOf e = 1) (he : P.underlying e = some (.int .u8)) (a b : List UInt8) (ha : a.length = n) (hb : b.length = n) :
    (Op.equalIn (d + 2) t (.agg (BV a).toArray) (.agg (BV b).toArray)).run P w = .ok (decide (a = b)) w := by
  rw [run_equalIn_array w (d + 1) _ _ hu hi, hc, List.range_eq_range', run_eqItems_bytes w d he a b n ha hb n 0 (by omega)]
  simp

/-- a == b of arrays of bytes. -/
theorem wp_eq_bytes {w : World} {o : Oper} {a : Act} {K : Act → World → Prop} {Q : Exit → Act → World → Prop} (op : BinOp) (hop : op = .eql ∨ op = .neq) (t : TypeId) (x y : Operand) (yt : TypeId) (ho : o.op = .binOp op t x y yt)
    {e : TypeId} {n : Nat} {i : TypeInfo} (hu : P.underlying t = some (.array n e)) (hi : P.info? e = some i) (hc : P.cellsOf e = 1) (he : P.underlying e = some (.int .u8)) (hm : P.eqGuardType P.depth t = false)
    {l m : List UInt8} (hx : a.eval x = .agg (BV l).toArray) (hy : a.eval y = .agg (BV m).toArray) (hl : l.length = n) (hml : m.length = n) (r : Bool) (hr : r = if op = .eql then decide (l = m) else !decide (l = m))
    (h : K (a.put o.dst (.bool r)) w) : o.wp P a w K Q := by
  have hq := run_eq_bytes (P := P) w 9998 hu hi hc he l m hl hml
  have hg := run_eqGuard_agg (P := P) w op t x y (BV l).toArray (BV m).toArray hm
  unfold Oper.wp execOp
  rcases hop with rfl | rfl
  · simp only [ho, hx, hy, Sem.run_bind, hg, Result.andThen_ok, run_eql_struct, hq, Sem.run_pure]
    simp at hr; subst hr; exact h
  · simp only [ho, hx, hy, Sem.run_bind, hg, Result.andThen_ok, run_neq_struct, hq, Sem.run_pure]
    simp at hr; subst hr; exact h
theorem wpl_eq_bytes {w : World} {ops : Array Oper} {rest : List Oper} {o : Oper} {a : Act} {Q : Exit → Act → World → Prop} (hw : Region.wanted o (yielded ops a.tmps) = true) (op : BinOp) (hop : op = .eql ∨ op = .neq) (t : TypeId) (x y : Operand) (yt : TypeId) (ho : o.op = .binOp op t x y yt)
    {e : TypeId} {n : Nat} {i : TypeInfo} (hu : P.underlying t = some (.array n e)) (hi : P.info? e = some i) (hc : P.cellsOf e = 1) (he : P.underlying e = some (.int .u8)) (hm : P.eqGuardType P.depth t = false)
    {l m : List UInt8} (hx : a.eval x = .agg (BV l).toArray) (hy : a.eval y = .agg (BV m).toArray) (hl : l.length = n) (hml : m.length = n) (r : Bool) (hr : r = if op = .eql then decide (l = m) else !decide (l = m))
    (h : wpList P ops Q rest (a.put o.dst (.bool r)) w) : wpList P ops Q (o :: rest) a w :=
  wpList_step fun _ hK => by
    rw [if_pos hw]
    exact wp_eq_bytes op hop t x y yt ho hu hi hc he hm hx hy hl hml r hr (hK _ _ h)

/-- a[k] of an array of bytes (by value). -/
theorem wpl_idx {w : World} {ops : Array Oper} {rest : List Oper} {o : Oper} {a : Act} {Q : Exit → Act → World → Prop} (hgd : o.guard = none) (t : TypeId) (x y : Operand) (ho : o.op = .index t x y)
    {e : TypeId} {n : Nat} {i : TypeInfo} (hu : P.underlying t = some (.array n e)) (hi : P.info? e = some i) (hc : i.size = 1) (he : P.underlying e = some (.int .u8))
    {l : List UInt8} {kd : IntKind} {k : Nat} (hx : a.eval x = .agg (BV l).toArray) (hy : a.eval y = .int kd (k : Int)) (hl : l.length = n) (hk : k < l.length)
    (h : wpList P ops Q rest (a.put o.dst (.int .u8 (l[k].toNat : Int))) w) : wpList P ops Q (o :: rest) a w := by
  have p1 := run_part1 (P := P) w he rfl (BV l).toArray k (by simpa [BV_length] using hk)
  have ea : (BV l).toArray[k]'(by simpa [BV_length] using hk) = .int .u8 (l[k].toNat : Int) := by simp [BV, bv]
  rw [ea] at p1
  have hin : (0 : Int) ≤ (k : Int) ∧ (k : Int) < (n : Int) := by omega
  refine wpList_plain hgd fun _ hK => ?_
  unfold Oper.wp execOp
  simp only [ho, hx, hy, Instr.index, asIntOf, Sem.run_bind, Sem.run_pure, Result.andThen_ok, run_underlying hu, hin, and_self, if_true, sizeOf, typeInfo, hi, hc, Nat.mul_one, Int.toNat_natCast, p1, run_program]
  exact hK _ _ h
end
end Go.Proofs.Ytnggcldghpmeaaa
