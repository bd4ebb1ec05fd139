/- What the package crc computes, walked on: slices grown and joined, bytes and their sum, a seal. -/
import Derived.Test.YtnggcldghpmeaaaW1
import Derived.Lib.AppendZeros
set_option linter.unusedVariables false
set_option linter.unusedSimpArgs false
set_option maxRecDepth 100000
namespace Go.Proofs.Ytnggcldghpmeaaa
open Go.RowKit
/-- A new row's elements up to its capacity, of which none is taken yet. -/
theorem Own.empty {w : World} {e : TypeId} {cs : Array Value} {c B : Nat} (hB : B ≤ w.heap.size) (hc : cs.size = c) (hm : c ≤ maxLen) : Own (w.alloc (.cells cs e)) B e 1 (some ⟨w.heap.size, 0, none⟩) 0 c [] :=
  ⟨by simp, .inr ⟨w.heap.size, c, cs, rfl, hB, heap_alloc_new w _, by omega, hm, by omega, by simp⟩⟩


set_option maxHeartbeats 400000 in
theorem Grow_nil (n : Nat) (w : World) (hn : n ≤ 10000000) : Calls Try.prog 182 #[.slice none 0 0, .int .i64 n] w fun e w' => ∃ A c, e = .returned (.slice A 0 c) ∧ Own w' w.heap.size 5 1 A 0 c [] ∧ Ext w w' := by
  obtain ⟨i0, hi, hz0, hz1, hz2⟩ := info_parts info5
  rcases Nat.eq_zero_or_pos n with h0 | h0
  · subst h0
    go_enter Try.func182, Try.ntmps182
    go_wp2
    go_ret
    exact ⟨none, 0, rfl, .nil, .rfl'⟩
  · have hcap := grownCap_ge w n 0 5
    have hmax := hid (grownCap_le_maxLen w n 0 5 (by unfold maxLen; omega))
    have hrun := hid (Lib.run_append_nil_zeros (P := Try.prog) w 63 3 63 5 i0 _ .i64 .i64 Try.underlying63 Try.underlying3 hi hz0 n h0 (by omega) (by omega) (by rw [hz2]; omega))
    generalize grownCap w n 0 5 = cp at *
    go_enter Try.func182, Try.ntmps182
    go_wp2_with (at_builtin; refine Lib.wpList_append_run _ rfl (.tmp 20) (.tmp 21) _ _ rfl _ _ rfl rfl _ _ hrun.out ?_)
    go_ret
    refine ⟨_, _, rfl, ?_, ?_⟩
    · refine Own.empty (w := w.drew) (Nat.le_refl _) ?_ hmax.out
      simp [size_zeroCells, Value.cells]; omega
    · exact Ext.al (Ext.dr1 .rfl') _

def sumLen (ls : List (List UInt8)) : Nat := ls.flatten.length
theorem sumLen_take (ls : List (List UInt8)) (k : Nat) : sumLen (ls.take k) ≤ sumLen ls := by
  unfold sumLen
  rw [show ls.flatten = (ls.take k).flatten ++ (ls.drop k).flatten by rw [← List.flatten_append, List.take_append_drop], List.length_append]
  omega
theorem sumLen_snoc (ls : List (List UInt8)) (k : Nat) (h : k < ls.length) : sumLen (ls.take (k + 1)) = sumLen (ls.take k) + ls[k].length := by
  unfold sumLen
  rw [flat_snoc ls k h, List.length_append]

theorem Concat_calls (A : Option Addr) (c : Nat) (ls : List (List UInt8)) (w : World) (hp : Parts w A ls) (h1 : ls.length ≤ 1000) (h2 : sumLen ls ≤ 1000000) :
    Calls Try.prog 159 #[.slice A ls.length c] w fun e w' => ∃ A' c', e = .returned (.slice A' (sumLen ls) c') ∧ Own w' w.heap.size 5 1 A' (sumLen ls) c' (BV ls.flatten) ∧ Ext w w' := by
  obtain ⟨i0, hi, hz0, hz1, hz2⟩ := info_parts info5
  go_enter Try.func159, Try.ntmps159
  go_wp2
  go_loop [3, 11] (fun s i => ∃ (k : Nat), k ≤ ls.length ∧ i = .int .i64 k ∧ s = .int .i64 (sumLen (ls.take k))) (fun _ i => ls.length - (intOf i).toNat)
  case atStart => exact ⟨0, by omega, rfl, rfl⟩
  case round =>
    obtain ⟨k, hk, rfl, rfl⟩ := hrel
    have hsk := sumLen_take ls k
    by_cases hlt : k < ls.length
    · obtain ⟨ad, B, c', rfl, hc, hr⟩ := hp.at_ k hlt
      have hs1 := sumLen_take ls (k + 1)
      have hs2 := sumLen_snoc ls k hlt
      have hs3 : sumLen (ls.take k) + ls[k].length ≤ 1000000 := by omega
      have hS := hid hs2
      clear hs2 hs1
      go_wp2
      go_round
      case rel => exact ⟨k + 1, by omega, by go_num, by rw [hS.out]; go_num⟩
      case measure => simp [intOf]; omega
    · have : k = ls.length := by omega
      subst this
      rw [List.take_length]
      go_wp2_with (go_at_call 182; refine (Grow_nil _ _ (by omega)).mono ?_; rintro e w1 ⟨A1, c1, rfl, hown, hex⟩)
      go_loopw [6, 27] (fun v i wr => ∃ (k : Nat) (A2 : Option Addr) (c2 : Nat), k ≤ ls.length ∧ i = .int .i64 k ∧ v = .slice A2 (sumLen (ls.take k)) c2 ∧ Own wr w.heap.size 5 1 A2 (sumLen (ls.take k)) c2 (BV (ls.take k).flatten) ∧ Ext w wr) (fun _ i _ => ls.length - (intOf i).toNat)
      case atStart => exact ⟨0, A1, c1, by omega, rfl, rfl, hown, hex⟩
      case round =>
        clear hsk
        obtain ⟨k, A2, c2, hk, rfl, rfl, hown2, hex2⟩ := hrel
        have hsk := sumLen_take ls k
        by_cases hlt : k < ls.length
        · obtain ⟨ad, B, c', rfl, hc, hr⟩ := (hp.ext hex2).at_ k hlt
          have hs1 := sumLen_take ls (k + 1)
          have hs2 := sumLen_snoc ls k hlt
          have hs3 : sumLen (ls.take k) + ls[k].length ≤ 1000000 := by omega
          have hS := hid hs2
          have hF := hid (flat_snoc ls k hlt)
          clear hs2 hs1
          have hsz := hex2.size
          go_wp2_with (at_builtin; refine wpl_app rfl (.tmp 31) (.tmp 32) 63 rfl Try.underlying63 hi hz0 hz1 hz2 rfl (by omega) rfl hown2 rfl (by simp [BV_length]) hr (BV_one _) (by unfold maxLen; omega) (by omega) hsz ?_; intro A3 c3 w3 hown3 hg3)
          go_roundw
          case rel =>
            refine ⟨k + 1, A3, c3, by omega, by go_num, by rw [hS.out], ?_, hex2.grown hg3 hsz (fun j hj => (hown2.block j hj).1)⟩
            rw [hS.out, hF.out, BV_append]; exact hown3
          case measure => simp [intOf]; omega
        · go_wp2
          go_ret
          have : k = ls.length := by omega
          subst this
          rw [List.take_length] at hown2 ⊢
          exact ⟨A2, c2, rfl, hown2, hex2⟩

def sealB (l : List UInt8) : List UInt8 := l ++ crcTail (crc 0xffffffff#32 l)
theorem sealB_length (l : List UInt8) : (sealB l).length = l.length + 4 := by simp [sealB, crcTail]
theorem Seal_calls (A : Option Addr) (c : Nat) (ls : List (List UInt8)) (w : World) (hp : Parts w A ls) (h1 : ls.length ≤ 1000) (h2 : sumLen ls ≤ 100000) :
    Calls Try.prog 87 #[.slice A ls.length c] w fun e w' => ∃ A' c', e = .returned (.slice A' (sumLen ls + 4) c') ∧ Own w' w.heap.size 5 1 A' (sumLen ls + 4) c' (BV (sealB ls.flatten)) ∧ Ext w w' := by
  obtain ⟨i0, hi, hz0, hz1, hz2⟩ := info_parts info5
  have h3 : ∀ l ∈ ls, l.length ≤ 100000 := by
    intro l hl
    refine Nat.le_trans ?_ h2
    unfold sumLen
    obtain ⟨k, hk, rfl⟩ := List.getElem_of_mem hl
    have := sumLen_snoc ls k hk
    have := sumLen_take ls (k + 1)
    unfold sumLen at *
    omega
  go_enter Try.func87, Try.ntmps87
  go_wp2_with (first
    | (go_at_call 159; refine (Concat_calls _ _ _ _ hp h1 (by omega)).mono ?_; rintro e w1 ⟨A1, c1, rfl, hown, hex⟩)
    | (go_at_call 161; refine (Of_calls _ _ _ _ (hp.ext hex) h1 h3).mono ?_; rintro e w' ⟨rfl, rfl⟩)
    | (go_at_call 160; refine (tail_calls _ _).mono ?_; rintro e w2 ⟨A2, rfl, hown2, hex2⟩; have hsz1 := hex.size; have hsz2 := hex2.size)
    | (at_builtin; refine wpl_app rfl (.tmp 4) (.tmp 7) 63 rfl Try.underlying63 hi hz0 hz1 hz2 rfl (by omega) rfl (hown.ext hex2) rfl (by simp [BV_length, crcTail]) hown2.rd (BV_one _) (by unfold maxLen; omega) (by omega) (by omega) ?_; intro A3 c3 w3 hown3 hg3))
  go_ret
  refine ⟨A3, c3, rfl, ?_, (hex.tr hex2).grown hg3 (by omega) (fun j hj => (hown.block j hj).1)⟩
  unfold sealB
  rw [BV_append]; exact hown3

theorem Seal_c {A : Option Addr} {n c : Nat} {w : World} (ls : List (List UInt8)) (l : List UInt8) (r : Nat) (hp : Parts w A ls) (h1 : ls.length ≤ 1000) (h2 : sumLen ls ≤ 100000) (hn : n = ls.length) (hl : ls.flatten = l) (hr : r = l.length + 4) :
    Calls Try.prog 87 #[.slice A n c] w fun e w' => ∃ A' c', e = .returned (.slice A' r c') ∧ Own w' w.heap.size 5 1 A' r c' (BV (sealB l)) ∧ Ext w w' := by
  subst hn hl hr
  exact Seal_calls A c ls w hp h1 h2
theorem Parts.new2 {w : World} {t : TypeId} {b : Nat} {B1 B2 : Option Addr} {n1 n2 c1 c2 : Nat} {l1 l2 : List UInt8} (hb : b = w.heap.size) (h1 : n1 = l1.length) (h2 : n2 = l2.length) (r1 : Rd w B1 (BV l1)) (r2 : Rd w B2 (BV l2)) :
    Parts (w.alloc (.cells #[.slice B1 n1 c1, .slice B2 n2 c2] t)) (some ⟨b, 0, none⟩) [l1, l2] := by
  refine ⟨_, Rd.new hb rfl, rfl, fun j l hj => ?_⟩
  subst h1 h2
  match j, hj with
  | 0, hj => simp at hj; subst hj; exact ⟨B1, c1, rfl, r1.al _⟩
  | 1, hj => simp at hj; subst hj; exact ⟨B2, c2, rfl, r2.al _⟩
theorem Parts.new1 {w : World} {t : TypeId} {b : Nat} {B1 : Option Addr} {n1 c1 : Nat} {l1 : List UInt8} (hb : b = w.heap.size) (h1 : n1 = l1.length) (r1 : Rd w B1 (BV l1)) :
    Parts (w.alloc (.cells #[.slice B1 n1 c1] t)) (some ⟨b, 0, none⟩) [l1] := by
  refine ⟨_, Rd.new hb rfl, rfl, fun j l hj => ?_⟩
  subst h1
  match j, hj with
  | 0, hj => simp at hj; subst hj; exact ⟨B1, c1, rfl, r1.al _⟩
end Go.Proofs.Ytnggcldghpmeaaa
