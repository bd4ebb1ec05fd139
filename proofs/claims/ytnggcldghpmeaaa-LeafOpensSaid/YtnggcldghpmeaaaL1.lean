/- What ends.Reader computes, walked: a reader of bytes; the next bytes. -/
import Derived.Test.YtnggcldghpmeaaaBld
import Derived.Test.YtnggcldghpmeaaaW2
set_option linter.unusedVariables false
set_option linter.unusedSimpArgs false
set_option maxRecDepth 100000
namespace Go.Proofs.Ytnggcldghpmeaaa
open Go.RowKit
attribute [local irreducible] Calls
/-- A reader in block g: these bytes are still to be taken; whether it has failed. -/
structure RdAt (w : World) (g : Nat) (l : List UInt8) (b : Bool) : Prop where mk ::
  (out : ∃ A c, Blk w g 235 #[.slice A l.length c, .bool b] ∧ Rd w A (BV l) ∧ l.length ≤ c ∧ ∀ ad, A = some ad → ad.block < g)
theorem RdAt.lt {w : World} {g : Nat} {l : List UInt8} {b : Bool} (h : RdAt w g l b) : g < w.heap.size := by
  obtain ⟨A, c, B, _⟩ := h.out
  exact B.lt
theorem RdAt.ext {w w' : World} {g : Nat} {l : List UInt8} {b : Bool} (h : RdAt w g l b) (e : Ext w w') : RdAt w' g l b := by
  obtain ⟨A, c, B, R, hc, hb⟩ := h.out
  exact ⟨A, c, B.ext e, R.ext e, hc, hb⟩
theorem RdAt.dr1 {w : World} {g : Nat} {l : List UInt8} {b : Bool} (h : RdAt w g l b) : RdAt w.drew g l b := h.ext Ext.rfl'.dr1
theorem Ext.gb {a b : World} (h : Ext a b) (r : Option Nat) : a.grownBy b r := ⟨h.os, h.tape, h.output, h.size, fun k hk _ => h.block k hk⟩
theorem gb_ext {a b c : World} {r : Option Nat} (h : a.grownBy b r) (e : Ext b c) : a.grownBy c r :=
  ⟨e.os.trans h.os, e.tape.trans h.tape, e.output.trans h.output, Nat.le_trans h.size e.size, fun k hk hr => (e.block k (Nat.lt_of_lt_of_le hk h.size)).trans (h.block k hk hr)⟩
theorem ext_gb {a b c : World} {r : Option Nat} (e : Ext a b) (h : b.grownBy c r) : a.grownBy c r :=
  ⟨h.os.trans e.os, h.tape.trans e.tape, h.output.trans e.output, Nat.le_trans e.size h.size, fun k hk hr => (h.block k (Nat.lt_of_lt_of_le hk e.size) hr).trans (e.block k hk)⟩
theorem gb_gb {a b c : World} {r : Option Nat} (h : a.grownBy b r) (k : b.grownBy c r) : a.grownBy c r :=
  ⟨k.os.trans h.os, k.tape.trans h.tape, k.output.trans h.output, Nat.le_trans h.size k.size, fun i hi hr => (k.block i (Nat.lt_of_lt_of_le hi h.size) hr).trans (h.block i hi hr)⟩
theorem gb_set {a b : World} {g : Nat} (h : a.grownBy b (some g)) (i : Nat) (v : Value) : a.grownBy (b.setCell ⟨g, i, none⟩ v) (some g) :=
  ⟨h.os, h.tape, h.output, by simpa [World.setCell] using h.size, fun k hk hr => (Below.heap_setCell _ _ _ k (fun e => hr (by rw [e]))).trans (h.block k hk hr)⟩
theorem cell_gb {w w' : World} {g : Nat} {p : Addr} {v : Value} (h : w.grownBy w' (some g)) (hp : p.block ≠ g) (hv : w.cell? p = some v) : w'.cell? p = some v := by
  have hlt := World.block_lt_of_cell? w p hv
  have := h.block p.block hlt (by intro e; cases e; exact hp rfl)
  simpa [World.cell?, this] using hv
theorem Rd.gb {w w' : World} {g : Nat} {A : Option Addr} {xs : List Value} (h : Rd w A xs) (e : w.grownBy w' (some g)) (hA : ∀ ad, A = some ad → ad.block ≠ g) : Rd w' A xs := by
  refine ⟨fun h0 => ?_⟩
  obtain ⟨ad, rfl, hc⟩ := h.out h0
  exact ⟨ad, rfl, fun j u hu => cell_gb e (by rw [block_of_add]; exact hA ad rfl) (hc j u hu)⟩
/-- A reader that is the caller's own: nothing that was there has turned. -/
theorem gb_below {a b : World} {g B : Nat} (h : a.grownBy b (some g)) (hB : B ≤ g) (hs : B ≤ a.heap.size) : Below B a b :=
  ⟨h.os, h.tape, h.output, h.size, fun k hk => h.block k (by omega) (fun e => by cases e; omega)⟩
theorem Clone_c {A : Option Addr} {n c : Nat} {w : World} (l : List UInt8) (hr : Rd w A (BV l)) (hn : n = l.length) (hl : l.length ≤ 1000000) :
    Calls Try.prog 157 #[.slice A n c] w fun e w' => ∃ A' c', e = .returned (.slice A' n c') ∧ Own w' w.heap.size 5 1 A' n c' (BV l) ∧ Ext w w' := by
  subst hn
  exact Clone_calls A c l w hr hl
theorem New92_calls (A : Option Addr) (n c : Nat) (l : List UInt8) (w : World) (hr : Rd w A (BV l)) (hn : n = l.length) (hl : l.length ≤ 100000) :
    Calls Try.prog 92 #[.slice A n c] w fun e w' => ∃ g, e = .returned (.pointer (some ⟨g, 0, none⟩)) ∧ w.heap.size ≤ g ∧ RdAt w' g l false ∧ Ext w w' := by
  subst hn
  go_enter Try.func92, Try.ntmps92
  go_wp2_with (first
    | (go_at_call 157; refine (Clone_calls _ _ _ _ hr (by omega)).mono ?_; rintro e w1 ⟨A1, c1, rfl, hown, hex⟩))
  go_ret
  refine ⟨_, rfl, hex.size, ⟨A1, c1, Blk.new_ (by simp), hown.rd.al _, hown.le, fun ad ha => ?_⟩, hex.al _⟩
  subst ha
  have h1 := (hown.block ad.block rfl).2
  exact h1
set_option maxHeartbeats 1000000 in
theorem Take_calls {w : World} {g : Nat} {l : List UInt8} (R : RdAt w g l false) (n : Nat) (hn : n ≤ l.length) (hl : l.length ≤ 100000) :
    Calls Try.prog 164 #[.pointer (some ⟨g, 0, none⟩), .int .i64 n] w fun e w' => ∃ A' c', e = .returned (.slice A' n c') ∧ Own w' w.heap.size 5 1 A' n c' (BV (l.take n)) ∧ RdAt w' g (l.drop n) false ∧ w.grownBy w' (some g) := by
  obtain ⟨A, c, B, hr, hc, hb⟩ := R.out
  have c0 := B.cell 0
  have c1 := B.cell 1
  have hlt : (l.take n).length = n := by simp; omega
  have HT := hid hlt
  clear hlt R
  go_enter Try.func164, Try.ntmps164
  go_wp2_with (first
    | (go_at_call 157; refine (Clone_c (l.take n) (by rw [BV_take]; exact hr.take n) HT.out.symm (by rw [HT.out]; omega)).mono ?_; rintro e w1 ⟨A1, c1', rfl, hown, hex⟩; have B1 := B.ext hex; have d0 := B1.cell 0; have d1 := B1.cell 1; have fz := B1.frozen 0))
  all_goals go_ret
  · have hd : l.drop n = [] := List.drop_eq_nil_of_le (by omega)
    refine ⟨A1, c1', rfl, hown.set_ (by show g < _; exact B.lt) _, ⟨A, 0, ?_, by rw [hd]; exact Rd.nil, by simp; omega, ?_⟩, gb_set (hex.gb _) _ _⟩
    · have := B1.set_ 0 (.slice A (l.length - n) 0)
      simpa using this
    · exact hb
  · refine ⟨A1, c1', rfl, hown.set_ (by show g < _; exact B.lt) _, ⟨A.map (·.add n), c - n, ?_, ?_, by simp; omega, ?_⟩, gb_set (hex.gb _) _ _⟩
    · have := B1.set_ 0 (.slice (A.map (·.add n)) (l.length - n) (c - n))
      simpa using this
    · have h1 := (hr.ext hex).drop n False (fun h => h.elim)
      rw [if_neg (fun h => h), ← BV_drop] at h1
      refine h1.gb (gb_set (Ext.rfl'.gb _) 0 _) ?_
      intro ad ha
      cases A with
      | none => cases ha
      | some a0 => cases ha; rw [block_of_add]; exact Nat.ne_of_lt (hb a0 rfl)
    · intro ad ha
      cases A with
      | none => cases ha
      | some a0 =>
        cases ha
        rw [block_of_add]
        exact hb a0 rfl
end Go.Proofs.Ytnggcldghpmeaaa
