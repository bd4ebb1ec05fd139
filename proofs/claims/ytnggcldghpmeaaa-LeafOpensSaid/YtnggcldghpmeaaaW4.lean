/- What ends.Put computes, walked: numbers behind bytes. -/
import Derived.Test.YtnggcldghpmeaaaW3
set_option linter.unusedVariables false
set_option linter.unusedSimpArgs false
set_option maxRecDepth 100000
namespace Go.Proofs.Ytnggcldghpmeaaa
open Go.RowKit
/-- A number's bytes, the lowest first. -/
def leB : Nat → Nat → List UInt8
  | 0, _ => []
  | k + 1, n => lo8 n :: leB k (n / 256)
theorem leB_length (k n : Nat) : (leB k n).length = k := by
  induction k generalizing n with
  | zero => rfl
  | succ k ih => simp [leB, ih]
theorem leB_snoc (k n : Nat) : leB (k + 1) n = leB k n ++ [lo8 (n / 256 ^ k)] := by
  induction k generalizing n with
  | zero => simp [leB]
  | succ k ih =>
    rw [leB, ih, leB]
    simp [Nat.div_div_eq_div_mul, Nat.pow_succ, Nat.mul_comm]
def leBs (k : Nat) (l : List Nat) : List UInt8 := (l.map (leB k)).flatten
theorem leBs_length (k : Nat) (l : List Nat) : (leBs k l).length = k * l.length := by
  induction l with
  | nil => rfl
  | cons n l ih => simp only [leBs, List.map_cons, List.flatten_cons, List.length_append, leB_length, List.length_cons] at ih ⊢; rw [ih, Nat.mul_succ]; omega
theorem leBs_snoc (k : Nat) (l : List Nat) (j : Nat) (h : j < l.length) : leBs k (l.take (j + 1)) = leBs k (l.take j) ++ leB k l[j] := by
  unfold leBs
  rw [take_snoc l j h, List.map_append, List.flatten_append]
  simp
def UV (l : List Nat) : List Value := l.map fun (n : Nat) => Value.int .u64 (n : Int)
theorem UV_length (l : List Nat) : (UV l).length = l.length := by simp [UV]
theorem Rd.u64 {w : World} {A : Option Addr} {l : List Nat} (h : Rd w A (UV l)) (k : Nat) (hk : k < l.length) : ∃ ad, A = some ad ∧ w.cell? (ad.add k) = some (.int .u64 (l[k] : Int)) := by
  obtain ⟨ad, e, hc⟩ := h.at_ k (by rw [UV_length]; exact hk)
  exact ⟨ad, e, by rw [hc]; simp [UV]⟩
theorem pow_width {W n : Nat} (h : n < 256 ^ W) : n < 2 ^ (8 * W) := by rw [Nat.pow_mul]; exact h

theorem le_next {x j : Nat} {z : Int} (h : z = ((x / 256 ^ j : Nat) : Int)) : Hid (z / 256 = ((x / 256 ^ (j + 1) : Nat) : Int)) := by
  show _ = _
  rw [Nat.pow_succ, ← Nat.div_div_eq_div_mul, h]
  generalize x / 256 ^ j = q
  omega
theorem le_byte {x j : Nat} {z : Int} (h : z = ((x / 256 ^ j : Nat) : Int)) : BV [lo8 (x / 256 ^ j)] = [.int .u8 (z % 256)] := by
  rw [h]
  simp only [BV, List.map_cons, List.map_nil, bv, lo8_toNat]
  generalize x / 256 ^ j = q
  congr 2
set_option maxHeartbeats 1000000 in
theorem Put_calls (A : Option Addr) (c : Nat) (l : List UInt8) (W : Nat) (M : Option Addr) (mc : Nat) (ns : List Nat) (w : World) (hr : Rd w A (BV l)) (hl : l.length ≤ 100000)
    (hW : IsWidth W) (hm : Rd w M (UV ns)) (hml : ns.length ≤ 1000) (hns : ∀ n ∈ ns, n < 256 ^ W) :
    Calls Try.prog 86 #[.slice A l.length c, .int .i64 W, .slice M ns.length mc] w fun e w' =>
      ∃ A' c', e = .returned (.tuple #[.slice A' (l.length + W * ns.length) c', .int .i64 0]) ∧ Own w' w.heap.size 5 1 A' (l.length + W * ns.length) c' (BV (l ++ leBs W ns)) ∧ Ext w w' := by
  obtain ⟨i0, hi, hz0, hz1, hz2⟩ := info_parts info5
  have hW8 : W ≤ 8 := by unfold IsWidth at hW; omega
  have hW0 : 1 ≤ W := by unfold IsWidth at hW; omega
  have HW := hid hW
  clear hW
  go_enter Try.func86, Try.ntmps86
  go_wp2_with (first
    | (go_at_call 156; refine (right_calls _ HW.out _).mono ?_; rintro e w' ⟨rfl, rfl⟩)
    | (go_at_call 157; refine (Clone_calls _ _ _ _ hr (by omega)).mono ?_; rintro e w1 ⟨A1, c1, rfl, hown, hex⟩))
  have hWn : ∀ k, k ≤ ns.length → W * k ≤ 8000 := fun k hk => Nat.le_trans (Nat.mul_le_mul hW8 (Nat.le_trans hk hml)) (by omega)
  have HWn := hid hWn
  clear hWn
  go_loopw [8, 18] (fun v i wr => ∃ (k : Nat) (A2 : Option Addr) (c2 : Nat), k ≤ ns.length ∧ i = .int .i64 k ∧ v = .slice A2 (l.length + W * k) c2 ∧ Own wr w.heap.size 5 1 A2 (l.length + W * k) c2 (BV (l ++ leBs W (ns.take k))) ∧ Ext w wr) (fun _ i _ => ns.length - (intOf i).toNat)
  case atStart => exact ⟨0, A1, c1, by omega, rfl, by simp, by simpa [leBs] using hown, hex⟩
  case round =>
    obtain ⟨k, A2, c2, hk, rfl, rfl, hown2, hex2⟩ := hrel
    by_cases hlt : k < ns.length
    · obtain ⟨ad, rfl, hc⟩ := (hm.ext hex2).u64 k hlt
      have hb := hns ns[k] (List.getElem_mem hlt)
      have hS := hid (leBs_snoc W ns k hlt)
      have HB : Hid (ns[k] < 256 ^ W) := hid hb
      clear hb
      have hWk := HWn.out k hk
      generalize ns[k] = x at *
      have hx0 : (0 : Int) ≤ (x : Int) := by omega
      obtain ⟨y, hy⟩ : ∃ y : Int, y = x := ⟨_, rfl⟩
      rw [← hy] at hc hx0
      have HY := hid hy
      clear hy
      go_wp2_with (first
        | (go_at_call 158; refine (len64_int y hx0 (by rw [HY.out]; have h1 := HB.out; have h2 : 256 ^ W ≤ 256 ^ 8 := Nat.pow_le_pow_right (by omega) hW8; omega) _).mono ?_; rintro e w' ⟨⟨L, hL, hI, rfl⟩, rfl⟩; have hLW : L ≤ 8 * W := hI.le (by rw [HY.out]; exact pow_width HB.out)))
      obtain ⟨p, hp⟩ : ∃ p, p = W * k := ⟨_, rfl⟩
      rw [← hp] at hown2 hWk ⊢
      have HP := hid hp
      clear hp
      have hsz := hex2.size
      go_loopw [8, 10, 28] (fun v n i wr' => ∃ (j : Nat) (z : Int) (A3 : Option Addr) (c3 : Nat), j ≤ W ∧ 0 ≤ z ∧ i = .int .i64 j ∧ n = .int .u64 z ∧ Hid (z = ((x / 256 ^ j : Nat) : Int)) ∧ v = .slice A3 (l.length + p + j) c3 ∧ Own wr' w.heap.size 5 1 A3 (l.length + p + j) c3 (BV (l ++ leBs W (ns.take k) ++ leB j x)) ∧ Ext w wr') (fun _ _ i _ => W - (intOf i).toNat)
      case atStart => exact ⟨0, y, A2, c2, by omega, hx0, rfl, rfl, by simpa using HY, rfl, by simpa [leB] using hown2, hex2⟩
      case round =>
        obtain ⟨j, z, A3, c3, hj, hz, rfl, rfl, HZ, rfl, hown3, hex3⟩ := hrel
        by_cases hjt : j < W
        · have hsz3 := hex3.size
          go_wp2_with (at_builtin; refine wpl_app rfl (.tmp 30) (.tmp 33) 63 rfl Try.underlying63 hi hz0 hz1 hz2 rfl (by omega) rfl (hown3.al _) (ys := [.int .u8 (z % 256)]) rfl rfl ((Blk.new _ 5 #[.int .u8 (z % 256)]).rd 0) (by simp [Value.oneCell']) (by unfold maxLen; omega) (by omega) (by simp; omega) ?_; intro A4 c4 w4 hown4 hg4)
          have hsz4 := hg4.size
          simp at hsz4
          go_roundw
          case rel =>
            refine ⟨j + 1, z / 256, A4, c4, by omega, by omega, by go_num, rfl, le_next HZ.out, rfl, ?_, ?_⟩
            · rw [leB_snoc, ← List.append_assoc, BV_append, le_byte HZ.out]; exact hown4
            · exact (hex3.al _).grown hg4 (by simp; omega) (fun i hi => (hown3.block i hi).1)
          case measure => simp [intOf]; omega
        · go_wp2
          go_roundw
          case rel =>
            obtain rfl : j = W := by omega
            refine ⟨k + 1, A3, c3, by omega, by go_num, ?_, ?_, hex3⟩
            · rw [Nat.mul_succ, ← HP.out, Nat.add_assoc]
            · rw [hS.out, Nat.mul_succ, ← HP.out, ← List.append_assoc, ← Nat.add_assoc]; exact hown3
          case measure => simp [intOf]; omega
    · go_wp2
      go_ret2
      have : k = ns.length := by omega
      subst this
      rw [List.take_length] at hown2
      exact ⟨A2, c2, rfl, hown2, hex2⟩

/-- The same, every argument a plain variable: it fits whatever stands at a call. -/
theorem Put_c {A : Option Addr} {n c : Nat} {Wi : Int} {M : Option Addr} {m mc : Nat} {w : World} (l : List UInt8) (W : Nat) (ns : List Nat) (r : Nat) (hr : Rd w A (BV l)) (hl : l.length ≤ 100000)
    (hW : IsWidth W) (hm : Rd w M (UV ns)) (hml : ns.length ≤ 1000) (hns : ∀ n ∈ ns, n < 256 ^ W) (h1 : n = l.length) (h2 : Wi = W) (h3 : m = ns.length) (h4 : r = l.length + W * ns.length) :
    Calls Try.prog 86 #[.slice A n c, .int .i64 Wi, .slice M m mc] w fun e w' =>
      ∃ A' c', e = .returned (.tuple #[.slice A' r c', .int .i64 0]) ∧ Own w' w.heap.size 5 1 A' r c' (BV (l ++ leBs W ns)) ∧ Ext w w' := by
  subst h1 h2 h3 h4
  exact Put_calls A c l W M mc ns w hr hl hW hm hml hns
end Go.Proofs.Ytnggcldghpmeaaa
