/- A range backward over bytes, walked: the library's iterator. -/
import Derived.RangeFuncNested
import Derived.RangeFuncBound
import Derived.RangeFuncCalls
import Derived.RangeFuncLeaves
import Derived.RangeFuncFrom
import Derived.Shelf.Abstract
import Derived.Shelf.RegionOpen
import Derived.OwnWalkIn
import Derived.TacticsInMore
import Derived.LoopNIn
import Derived.LoopIn
import Derived.Test.YtnggcldghpmeaaaL1
import Derived.Test.YtnggcldghpmeaaaW4
set_option linter.unusedVariables false
set_option linter.unusedSimpArgs false
set_option maxRecDepth 100000
namespace Go.Proofs.Ytnggcldghpmeaaa
open Go.RowKit Go.Shelf
attribute [local go_sem] Oper.semAt_some
/-- Whatever lay below n is as it was, but for block b. -/
structure Kb (n b : Nat) (W W' : World) : Prop where
  size : W.heap.size ≤ W'.heap.size
  block : ∀ i, i < n → i ≠ b → W'.heap[i]? = W.heap[i]?
theorem Kb.refl (n b : Nat) (W : World) : Kb n b W W := ⟨Nat.le_refl _, fun _ _ _ => rfl⟩
theorem Kb.tr {n b : Nat} {A B C : World} (h : Kb n b A B) (k : Kb n b B C) : Kb n b A C := ⟨Nat.le_trans h.size k.size, fun i hi hb => (k.block i hi hb).trans (h.block i hi hb)⟩
theorem Kb.cell {n b : Nat} {W W' : World} (h : Kb n b W W') {p : Addr} (hp : p.block < n) (hb : p.block ≠ b) : W'.cell? p = W.cell? p := by
  have := h.block p.block hp hb
  simp [World.cell?, this]
theorem Kb.put {n b : Nat} {w : World} (hn : n ≤ w.heap.size) (W : World) (l : Nat) (o o' : Obj) (hl : w.heap.size ≤ l) (h : W.heap[l]? = some o) (_ : o.isCells = false) (_ : o.isWalk = false) : Kb n b W (W.putObj l o') :=
  ⟨(grownBy_putObj' W l o').size, fun i hi hb => (grownBy_putObj' W l o').block i (by have := (Array.getElem?_eq_some_iff.1 h).1; omega) (fun e => by cases e; omega)⟩
/-- What has come when k rounds are over: the last k bytes, the last one first, each with its place. -/
def dn (l : List UInt8) (k : Nat) : List (Int × UInt8) := (List.range k).map fun (j : Nat) => (((l.length : Int) - 1 - (j : Int)), l.getD (l.length - 1 - j) 0)
theorem dn_length (l : List UInt8) (k : Nat) : (dn l k).length = k := by simp [dn]
theorem dn_succ (l : List UInt8) (k : Nat) : dn l (k + 1) = dn l k ++ [(((l.length : Int) - 1 - k), l.getD (l.length - 1 - k) 0)] := by simp [dn, List.range_succ]
def encB (x : Int × UInt8) : Array Value := #[.int .i64 x.1, .int .u8 (x.2.toNat : Int)]
set_option maxHeartbeats 2000000 in
theorem back1_in (n : Nat) (lp Bs n₀ b c : Nat) (A : Option Addr) (l : List UInt8) (hl : l.length ≤ 100000) (hbs : Bs < n₀) (hbs2 : Bs ≠ b) (hA : ∀ ad, A = some ad → ad.block < n₀ ∧ ad.block ≠ b) (J Jx : List (Int × UInt8) → World → Prop)
    (hY : ∀ pre x W, J pre W → pre.length < l.length → YieldAt Fence.wide (n - 1) Try.prog lp (encB x) W fun e W' =>
      (e = .returned (.bool true) ∧ J (pre ++ [x]) W' ∧ Kb n₀ b W W') ∨ (e = .returned (.bool false) ∧ Jx (pre ++ [x]) W'))
    (W : World) (hBs : W.cell? ⟨Bs, 0, none⟩ = some (.slice A l.length c)) (hc : Rd W A (BV l)) (h0 : J [] W) :
    CallsIn Fence.wide n Try.prog 185 #[.func (.yield lp) #[] #[], .pointer (some ⟨Bs, 0, none⟩)] W fun e W' => (∃ v, e = .returned v) ∧
      ((∃ ys, ys = dn l l.length ∧ J ys W') ∨ (∃ pre, (∃ k, k ≤ l.length ∧ pre = dn l k) ∧ Jx pre W')) := by
  refine callsIn_of_wp Try.func185 rfl trivial ?_ rfl
  simp only [Try.ntmps185, List.size_toArray, List.length_cons, List.length_nil, Nat.reduceAdd, Nat.reduceSub, Array.replicate_succ, Array.replicate_zero, List.push_toArray, List.append_toArray, List.nil_append, List.cons_append]
  gi_wp2
  gi_loopw [3] (fun i wr => ∃ k : Nat, k ≤ l.length ∧ i = .int .i64 ((l.length : Int) - 1 - k) ∧ J (dn l k) wr ∧ Kb n₀ b W wr)
    (fun i _ => (intOf i + 1).toNat)
  case atStart => exact ⟨0, Nat.zero_le _, by simp, by simpa [dn] using h0, Kb.refl _ _ _⟩
  case round =>
    obtain ⟨k, hk, rfl, hJs, hnx⟩ := hrel
    have hbx := (hnx.cell (p := ⟨Bs, 0, none⟩) hbs hbs2).trans hBs
    by_cases hlt : k < l.length
    · obtain ⟨m, hm⟩ : ∃ m : Nat, m = l.length - 1 - k := ⟨_, rfl⟩
      have hmi : (l.length : Int) - 1 - k = m := by omega
      have hml : m < l.length := by omega
      obtain ⟨ad, rfl, hcm⟩ := hc.at_ m (by rw [BV_length]; exact hml)
      have hcx := (hnx.cell (p := ad.add m) (by rw [block_of_add]; exact (hA ad rfl).1) (by rw [block_of_add]; exact (hA ad rfl).2)).trans hcm
      have hgd : l.getD (l.length - 1 - k) 0 = l[m] := by rw [← hm]; simp [hml]
      have hbv : (BV l)[m]'(by rw [BV_length]; exact hml) = .int .u8 (l[m].toNat : Int) := by simp [BV, bv]
      rw [hbv] at hcx
      have HS := dn_succ l k
      rw [hmi, hgd] at HS
      obtain ⟨fn, tmps, assign, body, hy, hR⟩ := hY _ ((m : Int), l[m]) wr hJs (by rw [dn_length]; exact hlt)
      rw [hmi]
      generalize l[m] = cc at *
      unfold encB at hy
      dsimp only at hy
      obtain ⟨y, hyy⟩ : ∃ y : Int, y = (cc.toNat : Int) := ⟨_, rfl⟩
      rw [← hyy] at hy hcx
      clear hbv hcm hgd
      have HYY := hid hyy
      have HM := hid hmi
      clear hyy hmi hm
      gi_wp2
      refine ⟨fun h => absurd h (by decide), hR.mono ?_⟩
      rintro e W3 (⟨rfl, hJ3, hk3⟩ | ⟨rfl, hJx3⟩)
      · gi_wp2
        go_roundw
        case rel =>
          have hN : (m : Int) - 1 = (l.length : Int) - 1 - ((k + 1 : Nat) : Int) := by have := HM.out; omega
          exact ⟨k + 1, by omega, by rw [← hN], by rw [HS]; exact hJ3, hnx.tr hk3⟩
        case measure => simp [intOf] <;> omega
      · gi_wp2
        refine bodyPost_ret (results_none rfl _ _ _) rfl ?_
        exact ⟨⟨_, rfl⟩, .inr ⟨_, ⟨k + 1, by omega, HS.symm⟩, hJx3⟩⟩
    · obtain rfl : k = l.length := by omega
      have hmi : (l.length : Int) - 1 - l.length = -1 := by omega
      rw [hmi]
      gi_wp2
      go_end0
      exact ⟨⟨_, rfl⟩, .inl ⟨_, rfl, hJs⟩⟩
theorem dn_val (l : List UInt8) : ∀ k, k ≤ l.length → (dn l k).map (·.2) = (l.drop (l.length - k)).reverse
  | 0, _ => by simp [dn]
  | k + 1, h => by
    rw [dn_succ, List.map_append, dn_val l k (by omega)]
    have e : l.length - k = (l.length - (k + 1)) + 1 := by omega
    rw [List.drop_eq_getElem_cons (i := l.length - (k + 1)) (by omega), List.reverse_cons, e]
    have e2 : l.length - 1 - k = l.length - (k + 1) := by omega
    simp only [List.map_cons, List.map_nil, e2]
    rw [show l.getD (l.length - (k + 1)) 0 = l[l.length - (k + 1)]'(by omega) by simp [List.getD, show l.length - (k + 1) < l.length by omega]]
/-- A number's bytes, read from the lowest. -/
def leN : List UInt8 → Nat
  | [] => 0
  | c :: l => c.toNat + 256 * leN l
def accN (l : List (Int × UInt8)) : Nat := l.foldl (fun n x => n * 256 + x.2.toNat) 0
theorem accN_snoc (l : List (Int × UInt8)) (x : Int × UInt8) : accN (l ++ [x]) = accN l * 256 + x.2.toNat := by simp [accN]
theorem foldN_lt : ∀ (l : List (Int × UInt8)) (a : Nat), l.foldl (fun n x => n * 256 + x.2.toNat) a < (a + 1) * 256 ^ l.length
  | [], a => by simp
  | x :: l, a => by
    have h := foldN_lt l (a * 256 + x.2.toNat)
    have hx := x.2.toNat_lt
    rw [List.foldl_cons, List.length_cons, Nat.pow_succ]
    refine Nat.lt_of_lt_of_le h ?_
    rw [show (a + 1) * (256 ^ l.length * 256) = ((a + 1) * 256) * 256 ^ l.length by rw [Nat.mul_comm (256 ^ l.length) 256, Nat.mul_assoc]]
    exact Nat.mul_le_mul_right _ (by omega)
theorem accN_lt (l : List (Int × UInt8)) : accN l < 256 ^ l.length := by
  have := foldN_lt l 0
  simpa [accN] using this
theorem foldl_rev (l : List UInt8) : l.reverse.foldl (fun n c => n * 256 + c.toNat) 0 = leN l := by
  induction l with
  | nil => rfl
  | cons c l ih => rw [List.reverse_cons, List.foldl_append, ih]; simp [leN]; omega
theorem accN_dn (l : List UInt8) : accN (dn l l.length) = leN l := by
  have h := dn_val l l.length (Nat.le_refl _)
  rw [Nat.sub_self, List.drop_zero] at h
  rw [← foldl_rev, ← h]
  unfold accN
  rw [List.foldl_map]
theorem leN_lt : ∀ l : List UInt8, leN l < 256 ^ l.length
  | [] => by simp [leN]
  | c :: l => by
    have := leN_lt l
    have := c.toNat_lt
    simp only [leN, List.length_cons, Nat.pow_succ]
    omega
theorem leN_leB : ∀ (k n : Nat), n < 256 ^ k → leN (leB k n) = n
  | 0, n, h => by simp at h; subst h; rfl
  | k + 1, n, h => by
    simp only [leB, leN]
    rw [leN_leB k (n / 256) (by rw [Nat.pow_succ] at h; omega), lo8_toNat]
    omega
theorem leB_leN : ∀ l : List UInt8, leB l.length (leN l) = l
  | [] => rfl
  | c :: l => by
    simp only [List.length_cons, leB, leN]
    have h1 : (c.toNat + 256 * leN l) / 256 = leN l := by have := c.toNat_lt; omega
    rw [h1, leB_leN l]
    congr 1
    apply UInt8.toNat_inj.1
    rw [lo8_toNat]
    have := c.toNat_lt
    omega
/-- slices.Backward: a function value that has the slice in a box. -/
theorem Backward_calls (A : Option Addr) (n c : Nat) (w : World) : Calls Try.prog 167 #[.slice A n c] w fun e w' => e = .returned (.func (.func 185) #[] #[.pointer (some ⟨w.heap.size, 0, none⟩)]) ∧ w' = w.alloc (.cells #[.slice A n c] 63) := by
  go_enter Try.func167, Try.ntmps167
  go_wp2
  go_ret
  exact ⟨rfl, rfl⟩
theorem Backward_stops (n Bs n₀ b c : Nat) (A : Option Addr) (l : List UInt8) (hl : l.length ≤ 100000) (hbs : Bs < n₀) (hbs2 : Bs ≠ b) (hA : ∀ ad, A = some ad → ad.block < n₀ ∧ ad.block ≠ b) (w : World) (hn : n₀ ≤ w.heap.size)
    (hBs : w.cell? ⟨Bs, 0, none⟩ = some (.slice A l.length c)) (hc : Rd w A (BV l)) :
    SeqStopsK Fence.wide n Try.prog 185 #[.pointer (some ⟨Bs, 0, none⟩)] encB (Kb n₀ b) (fun ys => ys = dn l l.length) (fun _ => True) l.length w := fun lp J Jx W hW _ _ hY h0 => by
  have hr : Rd W A (BV l) := hc.ext hW
  refine (back1_in n lp Bs n₀ b c A l hl hbs hbs2 hA J Jx hY W (Ext.cells hW hBs) hr h0).mono ?_
  rintro e W' ⟨he, h | ⟨pre, _, h⟩⟩
  · exact ⟨he, .inl h⟩
  · exact ⟨he, .inr ⟨pre, trivial, h⟩⟩
end Go.Proofs.Ytnggcldghpmeaaa
