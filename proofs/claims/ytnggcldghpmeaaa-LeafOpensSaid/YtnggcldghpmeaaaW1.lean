/- What the package crc and the slices under it compute, walked: a step of the sum, the sum of parts, its bytes, bytes and their sum. -/
import Derived.Test.YtnggcldghpmeaaaProg
import Derived.Test.YtnggcldghpmeaaaBits
set_option linter.unusedVariables false
set_option linter.unusedSimpArgs false
namespace Go.Proofs.Ytnggcldghpmeaaa
open Go.RowKit
set_option maxHeartbeats 400000 in
theorem step_calls (s : BitVec 32) (c : UInt8) (w : World) : Calls Try.prog 183 #[.int .u32 (s.toNat : Int), .int .u8 (c.toNat : Int)] w fun e w' => e = .returned (.int .u32 ((crcStep s c).toNat : Int)) ∧ w = w' := by
  have hs := s.isLt
  have hc := c.toNat_lt
  go_enter Try.func183, Try.ntmps183
  go_wp2
  go_loop [0, 11] (fun s' i => ∃ (k : Nat) (x : BitVec 32), k ≤ 8 ∧ i = .int .i64 k ∧ s' = .int .u32 (x.toNat : Int) ∧ Hid (x = shN k (s ^^^ crcTop c))) (fun _ i => 8 - (intOf i).toNat)
  case atStart =>
    refine ⟨0, s ^^^ crcTop c, by omega, rfl, ?_, rfl⟩
    rw [← xor32, top_toNat]; rfl
  case round =>
    obtain ⟨k, x, hk, rfl, rfl, hx⟩ := hrel
    have hxl := x.isLt
    go_wp2
    · have h1 : ((x.toNat : Int) / 2147483648 == 1) = true := by assumption
      refine ⟨⟨k + 1, sh1 x, by omega, by go_num, ?_, ?_⟩, by simp [intOf]; omega⟩
      · rw [sh1_yes x h1]
      · rw [hx.out]; exact rfl
    · have h1 : ((x.toNat : Int) / 2147483648 == 1) = false := by assumption
      refine ⟨⟨k + 1, sh1 x, by omega, by go_num, ?_, ?_⟩, by simp [intOf]; omega⟩
      · rw [sh1_no x h1]
      · rw [hx.out]; exact rfl
    · go_ret
      have : k = 8 := by omega
      subst this
      refine ⟨?_, rfl⟩
      rw [hx.out]; rfl

/-- A list of slices of bytes: the cells of the outer one are slices that read. -/
structure Parts (w : World) (A : Option Addr) (ls : List (List UInt8)) : Prop where mk ::
  (out : ∃ vs : List Value, Rd w A vs ∧ vs.length = ls.length ∧ ∀ (j : Nat) (l : List UInt8), ls[j]? = some l → ∃ B c, vs[j]? = some (Value.slice B l.length c) ∧ Rd w B (BV l))
theorem Parts.at_ {w : World} {A : Option Addr} {ls : List (List UInt8)} (h : Parts w A ls) (k : Nat) (hk : k < ls.length) :
    ∃ ad B c, A = some ad ∧ w.cell? (ad.add k) = some (.slice B ls[k].length c) ∧ Rd w B (BV ls[k]) := by
  obtain ⟨vs, hr, hl, hv⟩ := h.out
  obtain ⟨ad, e, hc⟩ := hr.at_ k (by omega)
  obtain ⟨B, c, h1, h2⟩ := hv k ls[k] (List.getElem?_eq_getElem hk)
  rw [List.getElem?_eq_getElem (by omega)] at h1
  injection h1 with h1
  exact ⟨ad, B, c, e, by rw [hc, h1], h2⟩
theorem Parts.ext {w w' : World} {A : Option Addr} {ls : List (List UInt8)} (h : Parts w A ls) (e : Ext w w') : Parts w' A ls := by
  obtain ⟨vs, hr, hl, hv⟩ := h.out
  exact ⟨vs, hr.ext e, hl, fun j l hj => let ⟨B, c, h1, h2⟩ := hv j l hj; ⟨B, c, h1, h2.ext e⟩⟩

theorem Parts.dr1 {w : World} {A : Option Addr} {ls : List (List UInt8)} (h : Parts w A ls) : Parts w.drew A ls := h.ext (Ext.dr1 Ext.rfl')
theorem take_snoc {α : Type} (l : List α) (k : Nat) (h : k < l.length) : l.take (k + 1) = l.take k ++ [l[k]] := by
  rw [List.take_succ_eq_append_getElem h]
theorem crc_snoc (s : BitVec 32) (l : List UInt8) (k : Nat) (h : k < l.length) : crc s (l.take (k + 1)) = crcStep (crc s (l.take k)) l[k] := by
  rw [take_snoc l k h, crc_append]; rfl
theorem flat_snoc (ls : List (List UInt8)) (k : Nat) (h : k < ls.length) : (ls.take (k + 1)).flatten = (ls.take k).flatten ++ ls[k] := by
  rw [take_snoc ls k h, List.flatten_append]; simp

set_option maxHeartbeats 400000 in
theorem Of_calls (A : Option Addr) (c : Nat) (ls : List (List UInt8)) (w : World) (hp : Parts w A ls) (h1 : ls.length ≤ 1000) (h2 : ∀ l ∈ ls, l.length ≤ 100000) :
    Calls Try.prog 161 #[.slice A ls.length c] w fun e w' => e = .returned (.int .u32 ((crc 0xffffffff#32 ls.flatten).toNat : Int)) ∧ w = w' := by
  go_enter Try.func161, Try.ntmps161
  go_wp2
  go_loop [3, 10] (fun s i => ∃ (k : Nat) (x : BitVec 32), k ≤ ls.length ∧ i = .int .i64 k ∧ s = .int .u32 (x.toNat : Int) ∧ Hid (x = crc 0xffffffff#32 (ls.take k).flatten)) (fun _ i => ls.length - (intOf i).toNat)
  case atStart => exact ⟨0, 0xffffffff#32, by omega, rfl, rfl, rfl⟩
  case round =>
    obtain ⟨k, x, hk, rfl, rfl, hx⟩ := hrel
    by_cases hlt : k < ls.length
    · obtain ⟨ad, B, c', rfl, hc, hr⟩ := hp.at_ k hlt
      have hl2 := h2 ls[k] (List.getElem_mem hlt)
      have hsn := hid (flat_snoc ls k hlt)
      generalize ls[k] = l at *
      go_wp2
      go_loop [3, 16] (fun s i => ∃ (j : Nat) (y : BitVec 32), j ≤ l.length ∧ i = .int .i64 j ∧ s = .int .u32 (y.toNat : Int) ∧ Hid (y = crc x (l.take j))) (fun _ i => l.length - (intOf i).toNat)
      case atStart => exact ⟨0, x, by omega, rfl, rfl, rfl⟩
      case round =>
        obtain ⟨j, y, hj, rfl, rfl, hy⟩ := hrel
        by_cases hjt : j < l.length
        · obtain ⟨ad', rfl, hb⟩ := hr.byte j hjt
          have hs2 := hid (crc_snoc x l j hjt)
          generalize l[j] = b at *
          go_wp2_with (go_at_call 183; refine (step_calls _ _ _).mono ?_; rintro e w' ⟨rfl, rfl⟩)
          go_round
          case rel => exact ⟨j + 1, crcStep y b, by omega, by go_num, rfl, by show _ = _; rw [hs2.out, hy.out]⟩
          case measure => simp [intOf]; omega
        · go_wp2
          have : j = l.length := by omega
          subst this
          refine ⟨⟨k + 1, y, by omega, by go_num, rfl, ?_⟩, by simp [intOf]; omega⟩
          show _ = _
          rw [hy.out, hsn.out, crc_append, hx.out, List.take_length]
    · go_wp2
      go_ret
      have : k = ls.length := by omega
      subst this
      refine ⟨?_, rfl⟩
      rw [hx.out, List.take_length]; rfl

theorem info5 : (Try.prog.info? 5).map (fun i => (i.zero, i.size, i.bytes)) = some (some (.int .u8 0), 1, 1) := by kernel_rfl

theorem crcTb_toNat (s : BitVec 32) : (crcTb s).toNat = s.toNat / 16777216 := by
  unfold crcTb
  rw [UInt8.toNat_ofBitVec, BitVec.extractLsb'_toNat, Nat.shiftRight_eq_div_pow]
  have := s.isLt
  omega
theorem shl_toNat (s : BitVec 32) (k : Nat) : (s <<< k).toNat = s.toNat * 2 ^ k % 4294967296 := by
  rw [BitVec.toNat_shiftLeft, Nat.shiftLeft_eq]
theorem BV_tail (s : BitVec 32) : BV (crcTail s) = [.int .u8 ((s.toNat : Int) / 16777216), .int .u8 ((s.toNat : Int) / 65536 % 256), .int .u8 ((s.toNat : Int) / 256 % 256), .int .u8 ((s.toNat : Int) % 256)] := by
  have := s.isLt
  have e1 : ((crcTb s).toNat : Int) = (s.toNat : Int) / 16777216 := by rw [crcTb_toNat]; omega
  have e2 : ((crcTb (s <<< 8)).toNat : Int) = (s.toNat : Int) / 65536 % 256 := by rw [crcTb_toNat, shl_toNat]; omega
  have e3 : ((crcTb (s <<< 16)).toNat : Int) = (s.toNat : Int) / 256 % 256 := by rw [crcTb_toNat, shl_toNat]; omega
  have e4 : ((crcTb (s <<< 24)).toNat : Int) = (s.toNat : Int) % 256 := by rw [crcTb_toNat, shl_toNat]; omega
  simp only [BV, crcTail, List.map_cons, List.map_nil, bv, e1, e2, e3, e4]

theorem tail_calls (s : BitVec 32) (w : World) : Calls Try.prog 160 #[.int .u32 (s.toNat : Int)] w fun e w' => ∃ A, e = .returned (.slice A 4 4) ∧ Own w' w.heap.size 5 1 A 4 4 (BV (crcTail s)) ∧ Ext w w' := by
  have hs := s.isLt
  go_enter Try.func160, Try.ntmps160
  go_wp2
  go_ret
  refine ⟨_, rfl, ?_, Ext.rfl'.al _⟩
  rw [BV_tail]
  exact Own.new w 5 _ 4 1 _ (Nat.le_refl _) (by unfold maxLen; omega) rfl

theorem Clone_calls (A : Option Addr) (c : Nat) (l : List UInt8) (w : World) (hr : Rd w A (BV l)) (hl : l.length ≤ 1000000) :
    Calls Try.prog 157 #[.slice A l.length c] w fun e w' => ∃ A' c', e = .returned (.slice A' l.length c') ∧ Own w' w.heap.size 5 1 A' l.length c' (BV l) ∧ Ext w w' := by
  rcases A with _ | ad
  · have hl0 : l = [] := by
      rcases l with _ | ⟨x, r⟩
      · rfl
      · obtain ⟨ad, e, _⟩ := hr.out (by simp [BV]); cases e
    subst hl0
    go_enter Try.func157, Try.ntmps157
    have hnil := Lib.run_eql_slice_nil (P := Try.prog) w 63 5 none 0 c 0 0 Try.underlying63
    go_wp2
    go_ret
    exact ⟨none, 0, rfl, .nil, .rfl'⟩
  · have hnil := Lib.run_eql_slice_nil (P := Try.prog) w 63 5 (some ad) l.length c 0 0 Try.underlying63
    obtain ⟨i0, hi, hz0, hz1, hz2⟩ := info_parts info5
    go_enter Try.func157, Try.ntmps157
    go_wp2_with (at_builtin; refine wpl_app rfl (.tmp 5) (.tmp 6) 63 rfl Try.underlying63 hi hz0 hz1 hz2 rfl (by omega) rfl (Own.new w 5 #[] 0 1 _ (Nat.le_refl _) (by unfold maxLen; omega) rfl) rfl (by simp [BV_length]) (hr.al _) (BV_one l) (by unfold maxLen; omega) (by omega) (by simp) ?_; intro A' c' w1 hown hg)
    go_ret
    have he : Ext w w1 := (Ext.rfl'.al (.cells #[] 5)).grown hg (by simp) (fun k hk => by simp [Value.ownBlock] at hk; omega)
    refine ⟨A', c', ?_, ?_, he⟩
    · simp
    · simpa using hown
end Go.Proofs.Ytnggcldghpmeaaa
