/- The stand-in for a disk: what it holds; a new one, walked. -/
import Derived.Test.YtnggcldghpmeaaaMid
import Derived.Test.YtnggcldghpmeaaaW6
import Derived.Laws.MakeOwn
import Derived.Carry
set_option linter.unusedVariables false
set_option linter.unusedSimpArgs false
set_option maxRecDepth 100000
namespace Go.Proofs.Ytnggcldghpmeaaa
open Go.RowKit
attribute [local irreducible] Calls
theorem info28 : (Try.prog.info? 28).map (fun i => (i.zero, i.size, i.bytes)) = some (some (.agg Try.zeroCells28), 256, 256) := by kernel_rfl
/-- make of a slice. -/
theorem wpl_make {P : Program} {w : World} {ops : Array Oper} {rest : List Oper} {o : Oper} {a : Act} {Q : Exit → Act → World → Prop} (hgd : o.guard = none) (t : TypeId) (x y : Operand) (ho : o.op = .makeSlice t x y)
    {e : TypeId} {i : TypeInfo} {z : Value} {size bytes : Nat} (ht : P.underlying t = some (.slice e)) (hi : P.info? e = some i) (hz : i.zero = some z) (hs : i.size = size) (hby : i.bytes = bytes)
    {n : Nat} {kl kc : IntKind} (hx : a.eval x = .int kl (n : Int)) (hy : a.eval y = .int kc (n : Int)) (hbytes : bytes * n ≤ 281474976710656) (h63 : n ≤ 1000000000)
    (h : wpList P ops Q rest (a.put o.dst (.slice (some ⟨w.heap.size, 0, none⟩) n n)) (w.alloc (.cells (madeCells z.cells (n * size)) e))) : wpList P ops Q (o :: rest) a w := by
  subst hs hby
  have hb : ((i.bytes * n : Nat) : Int) ≤ 281474976710656 := by omega
  rw [Int.natCast_mul] at hb
  have hr := run_make (P := P) w t e i z ht hi hz kl kc n n (by omega) (by omega) hb (by omega)
  simp only [Int.toNat_natCast] at hr
  refine wpList_plain hgd fun _ hK => ?_
  unfold Oper.wp execOp
  simp only [ho, hx, hy, Sem.run_bind, hr, Result.andThen_ok, Sem.run_pure]
  exact hK _ _ h
/-- make of a map. -/
theorem wpl_makeMap {P : Program} {w : World} {ops : Array Oper} {rest : List Oper} {o : Oper} {a : Act} {Q : Exit → Act → World → Prop} (hgd : o.guard = none) (t : TypeId) (ho : o.op = .makeMap t none)
    (h : wpList P ops Q rest (a.put o.dst (.map (some w.heap.size))) (w.alloc (.map #[] 0))) : wpList P ops Q (o :: rest) a w := by
  refine wpList_plain hgd fun _ hK => ?_
  unfold Oper.wp execOp
  simp only [ho, Sem.run_bind, run_makeMap, Result.andThen_ok, Sem.run_pure, Option.map_none]
  exact hK _ _ h
/-- What a disk holds: its pages, the writes that may be lost, how many acts are left, whether it is down. -/
structure DS where
  st : List (List UInt8)
  pend : List (Nat × List UInt8)
  left : Int
  down : Bool
def PD (l : List (Nat × List UInt8)) : List Value := l.flatMap fun p => .int .i64 p.1 :: BV p.2
/-- The disk of block g holds ds; every one of its blocks lies at lo or behind it. -/
structure DiskAt (w : World) (lo g : Nat) (ds : DS) (S M ck : Nat) (Pd : Option Addr) (pc : Nat) : Prop where
  blk : Blk w g 150 #[.slice (some ⟨S, 0, none⟩) ds.st.length ds.st.length, .map (some M), .slice Pd ds.pend.length pc, .int .i64 ds.left, .bool ds.down]
  sb : Blk w S 28 (BV ds.st.flatten).toArray
  mp : w.heap[M]? = some (.map #[] ck)
  own : Own w (g + 1) 215 257 Pd ds.pend.length pc (PD ds.pend)
  o1 : lo ≤ S
  o2 : S < M
  o3 : M < g
  pg : ∀ p ∈ ds.st, p.length = 256
theorem BV_getA {l : List UInt8} {k : Nat} (h : k < l.length) : (BV l).toArray[k]'(by simpa [BV_length] using h) = bv l[k] := by simp [BV]
theorem made_zero (n : Nat) : madeCells Try.zeroCells28 n = (BV (List.replicate n 0)).toArray := by
  rw [z28]
  apply Array.ext
  · simp [size_madeCells, BV_length]
  · intro i h1 h2
    simp only [madeCells, Array.getElem_map, Array.getElem_range]
    have h3 : i % (BV (List.replicate 256 (0 : UInt8))).toArray.size < 256 := by
      have : (BV (List.replicate 256 (0 : UInt8))).toArray.size = 256 := by simp [BV_length]
      rw [this]; exact Nat.mod_lt _ (by omega)
    rw [getElem!_pos _ _ (by simpa [BV_length] using h3), BV_getA (by simpa [BV_length] using h3), BV_getA (by simpa [BV_length] using h2), List.getElem_replicate, List.getElem_replicate]
def DS.new (n : Nat) : DS := { st := List.replicate n (List.replicate 256 0), pend := [], left := -1, down := false }
set_option maxHeartbeats 1000000 in
theorem New_calls (n : Nat) (hn : n ≤ 244) (hn0 : 0 < n) (w : World) : Calls Try.prog 33 #[.int .i64 n] w fun e w' => ∃ g S M, e = .returned (.pointer (some ⟨g, 0, none⟩)) ∧ DiskAt w' w.heap.size g (DS.new n) S M 0 none 0 ∧ Ext w w' := by
  obtain ⟨i0, hi, hz0, hz1, hz2⟩ := info_parts info28
  go_enter Try.func33, Try.ntmps33
  go_wp2_with (first
    | (refine wpl_make rfl 123 (.tmp 5) (.tmp 5) rfl Try.underlying123 hi hz0 hz1 hz2 rfl rfl (by omega) (by omega) ?_)
    | (refine wpl_makeMap rfl 147 rfl ?_))
  go_ret
  refine ⟨_, w.heap.size, w.heap.size + 1, rfl, ?_, ((Ext.rfl'.al _).al _).al _⟩
  refine ⟨?_, ?_, ?_, Own.nil, Nat.le_refl _, by omega, by omega, ?_⟩
  · show Blk _ _ 150 #[.slice (some ⟨w.heap.size, 0, none⟩) (List.replicate n (List.replicate 256 (0 : UInt8))).length (List.replicate n (List.replicate 256 (0 : UInt8))).length, _, _, _, _]
    rw [List.length_replicate]
    exact Blk.new_ (by simp)
  · show Blk _ _ 28 (BV (List.replicate n (List.replicate 256 (0 : UInt8))).flatten).toArray
    rw [List.flatten_replicate_replicate, ← made_zero]
    exact ((Blk.new w 28 (madeCells Try.zeroCells28 (n * 256))).al (.map #[] 0)).al _
  · refine ((MapKept.heap_alloc _ _).2 _ (by simp)).trans ?_
    have := (MapKept.heap_alloc (w.alloc (.cells (madeCells Try.zeroCells28 (n * 256)) 28)) (.map #[] 0)).1
    simpa using this
  · intro p hp
    simp only [DS.new, List.mem_replicate] at hp
    rw [hp.2]; simp
end Go.Proofs.Ytnggcldghpmeaaa
