/- The reference of layer 8: the node that bytes seem to be, walked. -/
import Derived.Test.YtnggcldghpmeaaaL10
import Derived.Test.YtnggcldghpmeaaaM2
set_option linter.unusedVariables false
set_option linter.unusedSimpArgs false
set_option maxRecDepth 100000
namespace Go.Proofs.Ytnggcldghpmeaaa
open Go.RowKit
attribute [local irreducible] Calls
theorem RPage_calls {w : World} {A : Option Addr} {c : Nat} (k : Int) (b : List UInt8) (l : List (Int × Int)) (hb : b.length = 16) (hr : Rd w A (EV l)) (hl : l.length ≤ 6) :
    Calls Try.prog 93 #[.agg (NV k b A l.length c)] w fun e w' => e = .returned (.tuple #[.agg (BV (pageN k b l)).toArray, .int .i64 (errN k b l)]) ∧ Ext w w' := by
  have RT := fun W (h : Ext w W) => hid (RRight_calls (c := c) k b l hb (hr.ext h) (by omega))
  unfold pageN errN
  cases hR : rightB k b l
  · rw [hR] at RT
    exact RPage_no _ (NV_size hb) RT
  · rw [hR] at RT
    rw [if_pos rfl, if_pos rfl]
    by_cases hk : k = 1
    · subst hk
      have hl0 : l = [] := by
        unfold rightB at hR
        simpa using hR
      subst hl0
      have e : nodeB 1 b [] = 1 :: b := by simp [nodeB]
      rw [e]
      exact RPage_data b hb RT
    · have e : nodeB k b l = b8 k :: b8 l.length :: entB l := by simp [nodeB, hk]
      rw [e]
      exact RPage_ents k b l hk hb hr hl RT
theorem sizeN {k : Int} {b : List UInt8} {A : Option Addr} {n c : Nat} (hb : b.length = 16) : (Try.prog.info? 50).map (·.size) = some (NV k b A n c).size := by rw [NV_size hb]; exact sz50
theorem wp_load5 {o : Oper} {a : Act} {w : World} {K : Act → World → Prop} {Q : Exit → Act → World → Prop} (x : Operand) (ho : o.op = .load 5 x) {ad : Addr} {z : Int} (hx : a.eval x = .pointer (some ad)) (hc : w.cell? ad = some (.int .u8 z)) (h : K (a.put o.dst (.int .u8 z)) w) : o.wp Try.prog a w K Q := by
  unfold Oper.wp execOp
  simp only [ho, hx]
  go_simp
  exact h
theorem leN_one (p : List UInt8) (h : 0 < p.length) : (leN (p.take 1) : Int) = (p[0].toNat : Int) := by
  match p, h with
  | x :: p, _ => simp [leN]
theorem leN_drop (p : List UInt8) (j : Nat) (h : j < p.length) : (leN ((p.drop j).take 1) : Int) = (p[j].toNat : Int) := by
  have := leN_one (p.drop j) (by simp; omega)
  rw [this]
  simp
theorem NV_setb (k : Int) (z : List UInt8) (A : Option Addr) (n c i : Nat) (x : UInt8) (hi : i < z.length) : (NV k z A n c).setIfInBounds (1 + i) (.int .u8 (x.toNat : Int)) = NV k (z.set i x) A n c := by
  unfold NV
  rw [List.setIfInBounds_toArray]
  congr 1
  rw [Nat.add_comm, List.set_cons_succ]
  congr 1
  rw [List.set_append_left _ _ (by rw [BV_length]; exact hi)]
  congr 1
  simp [BV, List.map_set, bv]
/-- The first i bytes taken, the others zeros. -/
def padB (b : List UInt8) (i : Nat) : List UInt8 := b.take i ++ List.replicate (16 - i) 0
theorem padB_length (b : List UInt8) (i : Nat) (hb : b.length = 16) (hi : i ≤ 16) : (padB b i).length = 16 := by simp [padB]; omega
theorem padB_next (b : List UInt8) (i : Nat) (h : i < b.length) (h2 : i < 16) : (padB b i).set i b[i] = padB b (i + 1) := by
  unfold padB
  rw [take_snoc b i h]
  have e : List.replicate (16 - i) (0 : UInt8) = 0 :: List.replicate (16 - (i + 1)) 0 := by
    rw [show 16 - i = (16 - (i + 1)) + 1 by omega, List.replicate_succ]
  rw [e, List.set_append, if_neg (by simp; omega)]
  have : i - (List.take i b).length = 0 := by simp; omega
  rw [this, List.set_cons_zero, List.append_assoc]
  rfl
end Go.Proofs.Ytnggcldghpmeaaa
