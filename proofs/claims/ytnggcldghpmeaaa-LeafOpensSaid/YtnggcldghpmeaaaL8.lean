/- The package leaf: the node that bytes seem to be, walked. -/
import Derived.Test.YtnggcldghpmeaaaL7
set_option linter.unusedVariables false
set_option linter.unusedSimpArgs false
set_option maxRecDepth 100000
namespace Go.Proofs.Ytnggcldghpmeaaa
open Go.RowKit
attribute [local irreducible] Calls
theorem gb_bel {a b c : World} {r : Option Nat} {B : Nat} (h : a.grownBy b r) (k : Below B b c) (hB : a.heap.size ≤ B) : a.grownBy c r :=
  ⟨k.os.trans h.os, k.tape.trans h.tape, k.output.trans h.output, Nat.le_trans h.size k.size, fun i hi hr => (k.block i (by omega)).trans (h.block i hi hr)⟩
theorem NV_splice (k : Int) (z b : List UInt8) (s : Value) (hz : z.length = 16) (hb : b.length = 16) : splice (.int .i64 k :: (BV z ++ [s])) 1 (BV b) = .int .i64 k :: (BV b ++ [s]) := by
  unfold splice
  rw [BV_length, hb]
  simp [List.drop_append, BV_length, hz]
theorem NV_set17 (k : Int) (b : List UInt8) (A : Option Addr) (n c : Nat) (A' : Option Addr) (n' c' : Nat) (hb : b.length = 16) : (NV k b A n c).setIfInBounds 17 (.slice A' n' c') = NV k b A' n' c' := by
  unfold NV
  rw [List.setIfInBounds_toArray]
  congr 1
  rw [List.set_cons_succ]
  congr 1
  rw [List.set_append_right _ _ (by rw [BV_length, hb]; omega)]
  simp [BV_length, hb]
theorem NV_lit (k : Int) : (#[.int .i64 k, .int .u8 0, .int .u8 0, .int .u8 0, .int .u8 0, .int .u8 0, .int .u8 0, .int .u8 0, .int .u8 0, .int .u8 0, .int .u8 0, .int .u8 0, .int .u8 0, .int .u8 0, .int .u8 0, .int .u8 0, .int .u8 0, .slice none 0 0] : Array Value) = NV k (List.replicate 16 0) none 0 0 := by
  simp [NV, BV, bv, List.replicate]
/-- The entries that bytes seem to be. -/
def ents : Nat → List UInt8 → List (Int × Int)
  | 0, _ => []
  | n + 1, l => ((leN (l.take 1) : Int), (leN ((l.drop 1).take 1) : Int)) :: ents n (l.drop 2)
theorem ents_length : ∀ (n : Nat) (l : List UInt8), (ents n l).length = n
  | 0, _ => rfl
  | n + 1, l => by simp [ents, ents_length n]
theorem ents_snoc : ∀ (n : Nat) (l : List UInt8), ents (n + 1) l = ents n l ++ [((leN ((l.drop (2 * n)).take 1) : Int), (leN ((l.drop (2 * n + 1)).take 1) : Int))]
  | 0, l => by simp [ents]
  | n + 1, l => by
    rw [ents, ents_snoc n (l.drop 2)]
    simp only [ents, List.cons_append, List.drop_drop]
    rw [show 2 + 2 * n = 2 * (n + 1) by omega, show 2 + (2 * n + 1) = 2 * (n + 1) + 1 by omega]
theorem leN1 (l : List UInt8) : leN (l.take 1) < 256 := by
  have := leN_lt (l.take 1)
  have h : (l.take 1).length ≤ 1 := by simp; omega
  have : 256 ^ (l.take 1).length ≤ 256 ^ 1 := Nat.pow_le_pow_right (by omega) h
  omega
theorem Num1 {w : World} {g : Nat} {l : List UInt8} (R : RdAt w g l false) (hn : 1 ≤ l.length) (hl : l.length ≤ 100000) (v : Int) (hv : v = leN (l.take 1)) :
    Calls Try.prog 100 #[.pointer (some ⟨g, 0, none⟩), .int .i64 1] w fun e w' => e = .returned (.int .u64 v) ∧ RdAt w' g (l.drop 1) false ∧ w.grownBy w' (some g) := by
  subst hv
  exact Num_calls R 1 (by simp [IsWidth]) hn hl
set_option maxHeartbeats 4000000 in
theorem read_one {w : World} {g : Nat} (p : List UInt8) (R : RdAt w g p false) (hp : 20 ≤ p.length) (hp2 : p.length ≤ 100000) (hk : leN (p.take 1) = 1) :
    Calls Try.prog 91 #[.pointer (some ⟨g, 0, none⟩)] w fun e w' => e = .returned (.agg (NV 1 ((p.drop 1).take 16) none 0 0)) ∧ w.grownBy w' (some g) := by
  have hg := R.lt
  have NUM := fun W (h : Ext w W) => hid (Num1 (R.ext h) (by omega) hp2 1 (by rw [hk]; rfl))
  have HP := hid hp
  have HP2 := hid hp2
  clear R hk hp hp2
  obtain ⟨z, hz⟩ : ∃ z : List UInt8, z = List.replicate 16 0 := ⟨_, rfl⟩
  have HZ : Hid (z.length = 16) := hid (by rw [hz]; simp)
  obtain ⟨b, hb⟩ : ∃ b : List UInt8, b = (p.drop 1).take 16 := ⟨_, rfl⟩
  have hbl : b.length = 16 := by rw [hb]; simp; have := HP.out; omega
  rw [← hb]
  have HBL := hid hbl
  have HBE := hid hb
  clear hb hbl
  have HN1 : Hid ((Try.prog.info? 50).map (·.size) = some (NV 1 z none 0 0).size) := hid (by rw [NV_size HZ.out]; exact sz50)
  have HN2 : Hid ((NV 0 z none 0 0).size = (NV 1 z none 0 0).size) := hid (by rw [NV_size HZ.out, NV_size HZ.out])
  go_enter Try.func91, Try.ntmps91
  go_wp2_with (first
    | (go_at_call 100; refine (NUM _ (Ext.rfl'.al _)).out.mono ?_; rintro e w1 ⟨rfl, hR1, hg1⟩; rw [NV_lit, ← hz] at hg1; have B2 : Blk w1 w.heap.size 50 (NV 0 z none 0 0) := (Blk.new w 50 _).grown hg1 (by intro e; cases e; omega))
    | (refine fit (.store 50 (.tmp 3) (.tmp 7)) ?_; simp only [NV_lit]; rw [← hz]; refine wpl_fresh rfl 50 (.tmp 3) (.tmp 7) rfl rfl rfl HN1.out HN2.out NV_one ?_; intro W1 E1 B3 hs1; have c0 := (B3.cell 0).trans NV0))
  rename_i K1 hK1 K2 hK2
  obtain ⟨q, hq⟩ : ∃ q, q = w.heap.size := ⟨_, rfl⟩
  obtain ⟨q3, hq3⟩ : ∃ q3, q3 = w1.heap.size := ⟨_, rfl⟩
  have hqq : q + 1 ≤ q3 := by have := hg1.size; simp at this; omega
  have hgq : g < q := by omega
  have g0 : w.grownBy w1 (some g) := ext_gb (Ext.rfl'.al _) hg1
  have G0 := hid g0
  have HR := hid ((hR1.ext E1).dr1)
  rw [← hq] at B2
  rw [← hq3] at B3
  rw [← hq, ← hq3]
  have HB2 := hid (B2.ext E1).dr1
  have HB3 := hid B3.dr1
  have HQ := hid hq
  have HQ3 := hid hq3
  have HE := hid E1.dr1
  have TK := hid (Take_calls HR.out 16 (by simp; have := HP.out; omega) (by simp; have := HP2.out; omega))
  clear hq hq3 B2 B3 E1 hR1 hg1 g0 hz NUM hg hs1 c0
  have hsz : q3 < W1.drew.heap.size := HB3.out.lt
  refine seq (fun W => W1.drew.heap.size ≤ W.heap.size) [0, 1, 2, 3, 4] (by kernel_rfl) (by kernel_rfl) (by kernel_rfl) (by decide) (fun _ _ _ _ _ h => h) (Nat.le_refl _) ?_
  refine seq_take (v := ?_) rfl rfl rfl (fun W hW => ?_) ?_
  rotate_left
  · go_simp
    rfl
  try simp only [Act.put, List.getElem_toArray, List.getElem_cons_zero, List.getElem_cons_succ, List.setIfInBounds_toArray, List.set_cons_zero, List.set_cons_succ]
  refine seq_take (v := ?_) rfl rfl rfl (fun W hW => ?_) ?_
  rotate_left
  · go_simp
    rfl
  try simp only [Act.put, List.getElem_toArray, List.getElem_cons_zero, List.getElem_cons_succ, List.setIfInBounds_toArray, List.set_cons_zero, List.set_cons_succ]
  refine seq_take (v := ?_) rfl rfl rfl (fun W hW => ?_) ?_
  rotate_left
  · go_simp
    rfl
  try simp only [Act.put, List.getElem_toArray, List.getElem_cons_zero, List.getElem_cons_succ, List.setIfInBounds_toArray, List.set_cons_zero, List.set_cons_succ]
  refine seq_do rfl rfl rfl ?_
  go_simp
  go_at_call 164
  refine TK.out.mono ?_
  rintro e W3 ⟨A3, c3, rfl, hown3, hR3, hg3⟩
  refine ⟨hg3.size, ?_⟩
  try simp only [Act.put, List.getElem_toArray, List.getElem_cons_zero, List.getElem_cons_succ, List.setIfInBounds_toArray, List.set_cons_zero, List.set_cons_succ]
  have C3 := HB3.out.grown hg3 (by intro e; cases e; omega)
  have C2 := HB2.out.grown hg3 (by intro e; cases e; omega)
  rw [← HBE.out] at hown3
  refine seq_do rfl rfl rfl ?_
  refine wp_copyS rfl (.tmp 12) (.tmp 14) 63 63 rfl 5 Try.underlying63 (by kernel_rfl) rfl rfl q3 1 (.int .i64 1 :: (BV z ++ [Value.slice none 0 0])) 50 C3 (BV b) (by rw [BV_length, HBL.out]; rfl) (fun _ => rfl) hown3.rd (by simp [BV_length, HBL.out, HZ.out]) (BV_one _) ?_
  intro W5 C5 hb5
  rw [NV_splice 1 z b _ HZ.out HBL.out] at C5
  refine ⟨Nat.le_trans hg3.size hb5.size, ?_⟩
  have D2 := C2.below hb5 (by omega)
  have D3 : Blk W5 q3 50 (NV 1 b none 0 0) := C5
  have HS3 : Hid ((Try.prog.info? 50).map (·.size) = some (NV 1 b none 0 0).size) := hid (by rw [NV_size HBL.out]; exact sz50)
  have HS2 : Hid ((NV 0 z none 0 0).size = (NV 1 b none 0 0).size) := hid (by rw [NV_size HBL.out, NV_size HZ.out])
  have HO := hid (NV_one (k := 1) (b := b) (A := none) (n := 0) (c := 0))
  have GG := hid (gb_bel (gb_gb (gb_ext G0.out HE.out) hg3) hb5 (by have := HQ.out; omega))
  clear C5 C2 C3 hown3 hR3 hg3 hb5
  generalize NV 0 z none 0 0 = nz at *
  try simp only [Act.put, List.getElem_toArray, List.getElem_cons_zero, List.getElem_cons_succ, List.setIfInBounds_toArray, List.set_cons_zero, List.set_cons_succ]
  refine seq_nil ?_
  refine hK2 _ _ ?_
  go_wp2_with (first
    | (refine fit (.load 50 (.tmp 3)) ?_; refine wpl_do rfl (wp_load 50 (.tmp 3) rfl rfl D3 Try.underlying50 rfl HS3.out ?_))
    | (refine fit (.store 50 (.tmp 2) (.tmp 16)) ?_; refine wpl_store rfl 50 (.tmp 2) (.tmp 16) rfl rfl rfl D2 HS3.out HS2.out HO.out ?_; intro W6 hW6 G6 hb6 hf6 hs6))
  exact ret_cell rfl rfl G6 Try.underlying50 rfl HS3.out rfl ⟨rfl, gb_bel GG.out hb6 (by have := HQ.out; omega)⟩
end Go.Proofs.Ytnggcldghpmeaaa
