/- The package leaf: a node as bytes, and as a page, walked. -/
import Derived.Test.YtnggcldghpmeaaaL5
import Derived.Test.YtnggcldghpmeaaaW5
set_option linter.unusedVariables false
set_option linter.unusedSimpArgs false
set_option maxRecDepth 100000
namespace Go.Proofs.Ytnggcldghpmeaaa
open Go.RowKit
attribute [local irreducible] Calls
/-- copy, as an operation by itself. -/
theorem wp_copyS {P : Program} {o : Oper} {a : Act} {w : World} {K : Act → World → Prop} {Q : Exit → Act → World → Prop} (hgd : o.guard = none) (d s : Operand) (dT sT : TypeId)
    (ho : o.op = .call { callee := .builtin .copy, args := #[d, s], argTypes := #[dT, sT] }) (elem : TypeId) (hu : P.underlying dT = some (.slice elem)) (hsz : (P.info? elem).map (·.size) = some 1)
    {dp sp : Option Addr} {dLen dCap sLen sCap : Nat} (hd : a.eval d = .slice dp dLen dCap) (hs : a.eval s = .slice sp sLen sCap)
    (g off : Nat) (cur : List Value) (t : TypeId) (hg : Blk w g t cur.toArray) (cs : List Value) (hn : cs.length = Nat.min sLen dLen)
    (hpos : 0 < cs.length → dp = some ⟨g, off, none⟩) (hr : Rd w sp cs) (hfit : off + cs.length ≤ cur.length) (h1 : ∀ v ∈ cs, v.oneCell' = true)
    (h : ∀ w', Blk w' g t (splice cur off cs).toArray → Below g w w' → K (a.put o.dst (goInt cs.length)) w') : o.wp P a w K Q := by
  have hw : Region.wanted o (yielded #[] a.tmps) = true := by simp [Region.wanted, hgd]
  have := step_copy_splice (P := P) (ops := #[]) (o := o) (a := a) (w := w) (K := K) (Q := Q) (E := True) hgd d s dT sT ho elem hu hsz dp sp dLen dCap sLen sCap hd hs g off cur t hg.out cs hn
    (fun h0 => ⟨hpos h0, hr.out h0⟩) hfit h1 g w (Below.refl _ _) (Nat.le_refl _) (fun w' h2 h3 => h w' ⟨h2⟩ h3)
  rwa [if_pos hw] at this
/-- A number's lowest byte. -/
def b8 (a : Int) : UInt8 := UInt8.ofNat (a % 256).toNat
theorem b8_bv (a : Int) : bv (b8 a) = .int .u8 (a % 256) := by
  unfold bv b8
  congr 1
  rw [UInt8.toNat_ofNat']
  omega
theorem BV2 (a b : Int) : BV [b8 a, b8 b] = [.int .u8 (a % 256), .int .u8 (b % 256)] := by simp [BV, b8_bv]
/-- A node as bytes. -/
def entB (l : List (Int × Int)) : List UInt8 := l.flatMap fun e => [b8 e.1, b8 e.2]
theorem entB_length (l : List (Int × Int)) : (entB l).length = 2 * l.length := by
  induction l with
  | nil => rfl
  | cons e l ih => simp [entB] at ih ⊢; omega
theorem entB_snoc (l : List (Int × Int)) (k : Nat) (h : k < l.length) : entB (l.take (k + 1)) = entB (l.take k) ++ [b8 l[k].1, b8 l[k].2] := by
  unfold entB
  rw [take_snoc l k h, List.flatMap_append]
  simp
def nodeB (k : Int) (b : List UInt8) (l : List (Int × Int)) : List UInt8 := if k = 1 then 1 :: b else b8 k :: b8 l.length :: entB l
def nodeLen (k : Int) (l : List (Int × Int)) : Nat := if k = 1 then 17 else 2 + 2 * l.length
theorem nodeB_length {k : Int} {b : List UInt8} {l : List (Int × Int)} (hb : b.length = 16) : (nodeB k b l).length = nodeLen k l := by
  unfold nodeB nodeLen
  split <;> simp [hb, entB_length] <;> omega
theorem info5' : True := trivial
set_option maxHeartbeats 4000000 in
theorem bytes_data {w : World} {A : Option Addr} {n c : Nat} (b : List UInt8) (hb : b.length = 16) :
    Calls Try.prog 90 #[.agg (NV 1 b A n c)] w fun e w' => ∃ A' c', e = .returned (.slice A' 17 c') ∧ Own w' w.heap.size 5 1 A' 17 c' (BV (1 :: b)) ∧ Ext w w' := by
  have N0 := NV0 (k := 1) (b := b) (A := A) (n := n) (c := c)
  have HA := hid (NV_at (Blk.new w 50 (NV 1 b A n c)) hb)
  have HB := hid hb
  generalize NV 1 b A n c = nv at *
  obtain ⟨i0, hi, hz0, hz1, hz2⟩ := info_parts info5
  have HI := hid hi
  have HI0 := hid hz0
  have HI1 := hid hz1
  have HI2 := hid hz2
  clear hi hz0 hz1 hz2 hb
  go_enter Try.func90, Try.ntmps90
  go_wp2
  obtain ⟨q, hq⟩ : ∃ q, q = w.heap.size := ⟨_, rfl⟩
  have c0 : (w.alloc (.cells nv 50)).cell? ⟨q, 0, none⟩ = some (.int .i64 1) := by rw [hq]; rw [(Blk.new w 50 nv).cell 0]; exact N0
  refine abs_w (fun W => Ext w W ∧ W.cell? ⟨q, 0, none⟩ = some (.int .i64 1) ∧ At W ⟨q, 1, none⟩ (BV b)) (fun W1 h1 => ?_) ⟨Ext.rfl'.al _, c0, by rw [hq]; exact HA.out⟩
  obtain ⟨E1, c1, A1⟩ := h1
  rw [← hq]
  have HE := hid E1.dr1
  have HA1 := hid A1.dr1
  have HC1 : Hid (W1.drew.cell? ⟨q, 0, none⟩ = some (.int .i64 1)) := hid c1
  have HQ := hid hq
  clear c0 E1 c1 A1 N0 HA hq
  refine seq (fun W => Ext W1.drew W) [0, 1, 2, 4, 5, 3, 6, 7] (by kernel_rfl) (by kernel_rfl) (by kernel_rfl) (by decide) (fun _ _ _ _ _ h => h) Ext.rfl' ?_
  refine seq_take (v := ?_) rfl rfl rfl (fun W hW => ?_) ?_
  rotate_left
  · go_simp
    rfl
  try simp only [Act.put, List.getElem_toArray, List.getElem_cons_zero, List.getElem_cons_succ, List.setIfInBounds_toArray, List.set_cons_zero, List.set_cons_succ]
  refine seq_take (v := ?_) rfl rfl rfl (fun W hW => ?_) ?_
  rotate_left
  · have c1 := Ext.cells hW HC1.out;go_simp
    rfl
  try simp only [Act.put, List.getElem_toArray, List.getElem_cons_zero, List.getElem_cons_succ, List.setIfInBounds_toArray, List.set_cons_zero, List.set_cons_succ]
  refine seq_take (v := ?_) rfl rfl rfl (fun W hW => ?_) ?_
  rotate_left
  · go_simp
    rfl
  try simp only [Act.put, List.getElem_toArray, List.getElem_cons_zero, List.getElem_cons_succ, List.setIfInBounds_toArray, List.set_cons_zero, List.set_cons_succ]
  refine seq_take (v := ?_) rfl rfl rfl (fun W hW => ?_) ?_
  rotate_left
  · go_simp
    rfl
  try simp only [Act.put, List.getElem_toArray, List.getElem_cons_zero, List.getElem_cons_succ, List.setIfInBounds_toArray, List.set_cons_zero, List.set_cons_succ]
  refine seq_take (v := ?_) rfl rfl rfl (fun W hW => ?_) ?_
  rotate_left
  · go_simp
    rfl
  try simp only [Act.put, List.getElem_toArray, List.getElem_cons_zero, List.getElem_cons_succ, List.setIfInBounds_toArray, List.set_cons_zero, List.set_cons_succ]
  refine seq_do rfl rfl rfl ?_
  go_simp
  refine ⟨Ext.rfl'.al _, ?_⟩
  try simp only [Act.put, List.getElem_toArray, List.getElem_cons_zero, List.getElem_cons_succ, List.setIfInBounds_toArray, List.set_cons_zero, List.set_cons_succ]
  have B9 : Own (W1.drew.alloc (.cells #[.int .u8 1] 5)) W1.drew.heap.size 5 1 (some ⟨W1.drew.heap.size, 0, none⟩) 1 1 [.int .u8 1] := Own.new W1.drew 5 #[.int .u8 1] 1 1 _ (Nat.le_refl _) (by unfold maxLen; omega) rfl
  refine seq_do rfl rfl rfl ?_
  refine wp_app (.tmp 12) (.tmp 14) 63 rfl Try.underlying63 HI.out HI0.out HI1.out HI2.out rfl (by omega) rfl B9 rfl (ys := BV b) (by rw [BV_length, HB.out]) (HA1.out.ext (Ext.rfl'.al _)).rd (BV_one _) (by unfold maxLen; omega) (by omega) (by simp) ?_
  intro A' c' W3 hown3 hg3
  have E3 : Ext W1.drew W3 := (Ext.rfl'.al (.cells #[.int .u8 1] 5)).grown hg3 (by simp) (fun k hk => (B9.block k hk).1)
  refine ⟨E3, ?_⟩
  try simp only [Act.put, List.getElem_toArray, List.getElem_cons_zero, List.getElem_cons_succ, List.setIfInBounds_toArray, List.set_cons_zero, List.set_cons_succ]
  refine seq_take (v := ?_) rfl rfl rfl (fun W hW => ?_) ?_
  rotate_left
  · go_simp
    rfl
  try simp only [Act.put, List.getElem_toArray, List.getElem_cons_zero, List.getElem_cons_succ, List.setIfInBounds_toArray, List.set_cons_zero, List.set_cons_succ]
  refine seq_nil ?_
  go_wp2
  go_ret
  exact ⟨A', c', rfl, hown3.low (by have := HE.out.size; simpa using this), HE.out.tr E3⟩
set_option maxHeartbeats 4000000 in
theorem bytes_ents {w : World} {A : Option Addr} {c : Nat} (k : Int) (b : List UInt8) (l : List (Int × Int)) (hk : ¬ k = 1) (hb : b.length = 16) (hr : Rd w A (EV l)) (hl : l.length ≤ 100000) :
    Calls Try.prog 90 #[.agg (NV k b A l.length c)] w fun e w' => ∃ A' c', e = .returned (.slice A' (2 + 2 * l.length) c') ∧ Own w' w.heap.size 5 1 A' (2 + 2 * l.length) c' (BV (b8 k :: b8 l.length :: entB l)) ∧ Ext w w' := by
  have N0 := NV0 (k := k) (b := b) (A := A) (n := l.length) (c := c)
  have N17 := NV17 (k := k) (A := A) (n := l.length) (c := c) hb
  generalize NV k b A l.length c = nv at *
  obtain ⟨i0, hi, hz0, hz1, hz2⟩ := info_parts info5
  have HI := hid hi
  have HI0 := hid hz0
  have HI1 := hid hz1
  have HI2 := hid hz2
  clear hi hz0 hz1 hz2 hb
  have hk' : (k == 1) = false := by simp [hk]
  go_enter Try.func90, Try.ntmps90
  go_wp2
  have E0 : Ext w ((w.alloc (.cells nv 50)).alloc (.cells #[.int .u8 (k % 256), .int .u8 ((l.length : Int) % 256)] 5)) := (Ext.rfl'.al _).al _
  have O0 : Own ((w.alloc (.cells nv 50)).alloc (.cells #[.int .u8 (k % 256), .int .u8 ((l.length : Int) % 256)] 5)) w.heap.size 5 1 (some ⟨w.heap.size + 1, 0, none⟩) 2 2 [.int .u8 (k % 256), .int .u8 ((l.length : Int) % 256)] := by
    have := Own.new (w.alloc (.cells nv 50)) 5 #[.int .u8 (k % 256), .int .u8 ((l.length : Int) % 256)] 2 1 w.heap.size (by simp) (by unfold maxLen; omega) rfl
    simpa using this
  clear N0 N17
  go_loopw [3, 27] (fun v i wr => ∃ (j : Nat) (A2 : Option Addr) (c2 : Nat), j ≤ l.length ∧ i = .int .i64 j ∧ v = .slice A2 (2 + 2 * j) c2 ∧ Own wr w.heap.size 5 1 A2 (2 + 2 * j) c2 (BV (b8 k :: b8 l.length :: entB (l.take j))) ∧ Ext w wr) (fun _ i _ => l.length - (intOf i).toNat)
  case atStart => exact ⟨0, _, _, by omega, rfl, rfl, by simpa [BV, b8_bv, entB] using O0, E0⟩
  case round =>
    obtain ⟨j, A2, c2, hj, rfl, rfl, hown2, hex2⟩ := hrel
    by_cases hlt : j < l.length
    · obtain ⟨ad, rfl, hat⟩ := EV_at (hr.ext hex2) j hlt
      have HAT := hid hat
      have HS := hid (entB_snoc l j hlt)
      have HI6 := hid sz60
      clear hat
      generalize l[j] = en at *
      obtain ⟨a, p⟩ := en
      simp only at *
      have hsz := hex2.size
      go_wp2_with (first
        | (refine fit (.load 60 (.tmp 29)) ?_; refine wpl_do rfl (wp_loadAt 60 (.tmp 29) rfl rfl [.int .i64 a, .int .i64 p] HAT.out Try.underlying60 rfl HI6.out ?_))
        | (at_builtin; refine wpl_app rfl (.tmp 31) (.tmp 38) 63 rfl Try.underlying63 HI.out HI0.out HI1.out HI2.out rfl (by omega) rfl ((hown2.al _).al _) rfl (ys := BV [b8 a, b8 p]) rfl (by rw [BV2]; exact Rd.new (by simp) rfl) (BV_one _) (by unfold maxLen; omega) (by omega) (by simp; omega) ?_; intro A4 c4 w4 hown4 hg4))
      go_roundw
      case rel =>
        refine ⟨j + 1, A4, c4, by omega, by go_num, by rw [Nat.mul_succ, Nat.add_assoc], ?_, ?_⟩
        · rw [HS.out, Nat.mul_succ, ← Nat.add_assoc]
          have := hown4
          rw [← BV_append] at this
          simpa using this
        · exact ((hex2.al _).al _).grown hg4 (by simp; omega) (fun i hi => (hown2.block i hi).1)
      case measure => simp [intOf]; omega
    · obtain rfl : j = l.length := by omega
      rw [List.take_length] at hown2
      go_wp2
      go_ret
      exact ⟨A2, c2, rfl, hown2, hex2⟩
end Go.Proofs.Ytnggcldghpmeaaa
