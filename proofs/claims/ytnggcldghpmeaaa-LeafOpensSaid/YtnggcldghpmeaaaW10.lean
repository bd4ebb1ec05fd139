/- The reference's list of fields, walked. -/
import Derived.Test.YtnggcldghpmeaaaW9
import Derived.Test.YtnggcldghpmeaaaMid
set_option linter.unusedVariables false
set_option linter.unusedSimpArgs false
set_option maxRecDepth 100000
namespace Go.Proofs.Ytnggcldghpmeaaa
open Go.RowKit
attribute [local irreducible] Calls
def PV (ps : List (Nat × Nat)) : List Value := ps.flatMap fun p => [.int .u64 p.1, .int .u64 p.2]
def fieldsB (ps : List (Nat × Nat)) : List UInt8 := ps.flatMap fun p => leB p.1 p.2
theorem PV_length (ps : List (Nat × Nat)) : (PV ps).length = ps.length * 2 := by
  induction ps with
  | nil => rfl
  | cons p ps ih => simp only [PV, List.flatMap_cons, List.length_append, List.length_cons, List.length_nil] at ih ⊢; omega
theorem PV_get : ∀ (ps : List (Nat × Nat)) (k : Nat) (h : k < ps.length), (PV ps)[k * 2]? = some (.int .u64 ps[k].1) ∧ (PV ps)[k * 2 + 1]? = some (.int .u64 ps[k].2)
  | p :: ps, 0, _ => ⟨rfl, rfl⟩
  | p :: ps, k + 1, h => by
    have := PV_get ps k (by simpa using h)
    have e : PV (p :: ps) = .int .u64 p.1 :: .int .u64 p.2 :: PV ps := rfl
    rw [e, Nat.succ_mul]
    simpa using this
theorem Rd.pair {w : World} {A : Option Addr} {ps : List (Nat × Nat)} (h : Rd w A (PV ps)) (k : Nat) (hk : k < ps.length) :
    ∃ ad, A = some ad ∧ At w (ad.add (k * 2)) [.int .u64 ps[k].1, .int .u64 ps[k].2] := by
  obtain ⟨h1, h2⟩ := PV_get ps k hk
  obtain ⟨ad, rfl, _⟩ := h.at_ (k * 2) (by rw [PV_length]; omega)
  refine ⟨ad, rfl, ⟨fun j v hv => ?_⟩⟩
  rw [Addr.add_add]
  match j, hv with
  | 0, hv => simp at hv; subst hv; exact (At.of h).out _ _ h1
  | 1, hv => simp at hv; subst hv; exact (At.of h).out _ _ h2
theorem fieldsB_snoc (ps : List (Nat × Nat)) (k : Nat) (h : k < ps.length) : fieldsB (ps.take (k + 1)) = fieldsB (ps.take k) ++ leB ps[k].1 ps[k].2 := by
  unfold fieldsB
  rw [take_snoc ps k h, List.flatMap_append]
  simp
theorem fieldsB_le (ps : List (Nat × Nat)) (h : ∀ p ∈ ps, p.1 ≤ 8 ∧ p.2 < 18446744073709551616) : (fieldsB ps).length ≤ 8 * ps.length := by
  induction ps with
  | nil => simp [fieldsB]
  | cons p ps ih =>
    have h1 := ih (fun q hq => h q (by simp [hq]))
    have h2 := (h p (by simp)).1
    simp only [fieldsB, List.flatMap_cons, List.length_append, leB_length, List.length_cons] at h1 ⊢
    omega
theorem sz23 : (Try.prog.info? 23).map (·.size) = some 2 := by kernel_rfl
theorem Bytes_c {z wi : Int} {W : Nat} (n : Nat) (hn : n < 18446744073709551616) (hW : W ≤ 8) (hz : z = n) (hw : wi = W) (w : World) :
    Calls Try.prog 163 #[.int .u64 z, .int .i64 wi] w fun e w' => ∃ A' c' b, e = .returned (.tuple #[.slice A' W c', .bool b]) ∧ b = decide (n / 256 ^ W = 0) ∧ Own w' w.heap.size 5 1 A' W c' (BV (leB W n)) ∧ Ext w w' := by
  subst hz hw
  exact (Bytes_calls n hn W (by omega) w).mono fun e w' ⟨A', c', h1, h2, h3⟩ => ⟨A', c', _, h1, rfl, h2, h3⟩
set_option maxHeartbeats 1000000 in
theorem Fields_calls (A : Option Addr) (c : Nat) (ps : List (Nat × Nat)) (w : World) (hr : Rd w A (PV ps)) (hl : ps.length ≤ 1000) (hps : ∀ p ∈ ps, p.1 ≤ 8 ∧ p.2 < 18446744073709551616) :
    Calls Try.prog 89 #[.slice A ps.length c] w fun e w' => ∃ A' n c', e = .returned (.slice A' n c') ∧ n = (fieldsB ps).length ∧ Own w' w.heap.size 5 1 A' n c' (BV (fieldsB ps)) ∧ Ext w w' := by
  obtain ⟨i0, hi, hz0, hz1, hz2⟩ := info_parts info5
  have HPS := hid hps
  clear hps
  have HR := hid hr
  clear hr
  have HS := hid sz23
  go_enter Try.func89, Try.ntmps89
  go_wp2
  go_loopw [3, 11] (fun s i wr => ∃ (k n : Nat) (A2 : Option Addr) (c2 : Nat), k ≤ ps.length ∧ i = .int .i64 k ∧ s = .slice A2 n c2 ∧ Hid (n = (fieldsB (ps.take k)).length) ∧ Own wr w.heap.size 5 1 A2 n c2 (BV (fieldsB (ps.take k))) ∧ Ext w wr) (fun _ i _ => ps.length - (intOf i).toNat)
  case atStart => exact ⟨0, 0, _, _, by omega, rfl, rfl, rfl, Own.empty (Nat.le_refl _) rfl (by omega), Ext.rfl'.al _⟩
  case round =>
    obtain ⟨k, n, A2, c2, hk, rfl, rfl, HNN, hown, hex⟩ := hrel
    have hsz := hex.size
    have hn8 : n ≤ 8000 := by
      rw [HNN.out]
      have := fieldsB_le (ps.take k) (fun p hp => HPS.out p (List.mem_of_mem_take hp))
      simp at this; omega
    by_cases hlt : k < ps.length
    · obtain ⟨ad, rfl, hat⟩ := (HR.out.ext hex).pair k hlt
      have hpk := HPS.out ps[k] (List.getElem_mem hlt)
      have HK := hid (fieldsB_snoc ps k hlt)
      obtain ⟨y0, hy0⟩ : ∃ y : Int, y = ps[k].1 := ⟨_, rfl⟩
      obtain ⟨y1, hy1⟩ : ∃ y : Int, y = ps[k].2 := ⟨_, rfl⟩
      rw [← hy0, ← hy1] at hat
      have HY0 := hid hy0
      have HY1 := hid hy1
      have hb0 : 0 ≤ y0 ∧ y0 ≤ 8 := by omega
      have hb1 : 0 ≤ y1 := by omega
      have HPK := hid hpk
      clear hpk hy0 hy1
      obtain ⟨hb2, hb3⟩ := hb0
      go_wp2_with (first
        | (refine fit (.load 23 (.tmp 13)) ?_; refine wpl_do rfl (wp_loadAt 23 (.tmp 13) rfl rfl [.int .u64 y0, .int .u64 y1] hat Try.underlying23 rfl HS.out ?_))
        | (refine fit (.store 23 (.tmp 5) (.tmp 14)) ?_; (refine wpl_fresh rfl 23 (.tmp 5) (.tmp 14) rfl rfl rfl HS.out rfl (by simp [Value.oneCell']) ?_; intro W1 E1 G1 hs1; have c0 : W1.cell? ⟨wr.heap.size, 0, none⟩ = some (.int .u64 y0) := G1.cell 0; have c1 : W1.cell? ⟨wr.heap.size, 1, none⟩ = some (.int .u64 y1) := G1.cell 1))
        | (go_at_call 163; (refine (Bytes_c ps[k].2 HPK.out.2 HPK.out.1 HY1.out HY0.out _).mono ?_; rintro e W2 ⟨A3, c3, b3, rfl, hb3, hown3, hE2⟩; clear hb3; have hown2 := hown.ext (E1.tr hE2); have hsz2 := (E1.tr hE2).size; have hsz3 := E1.size))
        | (at_builtin; refine wpl_app rfl (.tmp 24) (.tmp 25) 63 rfl Try.underlying63 hi hz0 hz1 hz2 rfl (by omega) rfl hown2 (ys := BV (leB ps[k].1 ps[k].2)) rfl (by simp [BV_length, leB_length]) hown3.rd (BV_one _) (by have := HPK.out.1; unfold maxLen; omega) (by have := HPK.out.1; omega) (by omega) ?_; intro A4 c4 w4 hown4 hg4))
      have hsz4 := hg4.size
      go_roundw
      case rel =>
        refine ⟨k + 1, n + ps[k].1, A4, c4, by omega, by go_num, rfl, ?_, ?_, ?_⟩
        · show _ = _
          rw [HK.out, List.length_append, leB_length, ← HNN.out]
        · rw [HK.out, BV_append]; exact hown4
        · exact (hex.tr (E1.tr hE2)).grown hg4 (by omega) (fun i hi => (hown.block i hi).1)
      case measure => simp [intOf]; omega
    · go_wp2
      go_ret
      obtain rfl : k = ps.length := by omega
      rw [List.take_length] at hown HNN
      exact ⟨A2, n, c2, rfl, HNN.out, hown, hex⟩
end Go.Proofs.Ytnggcldghpmeaaa
