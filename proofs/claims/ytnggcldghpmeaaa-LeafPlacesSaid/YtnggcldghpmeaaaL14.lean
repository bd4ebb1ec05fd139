/- The law LeafPlaces, walked. -/
import Derived.Test.YtnggcldghpmeaaaL13
set_option linter.unusedVariables false
set_option linter.unusedSimpArgs false
set_option maxRecDepth 100000
namespace Go.Proofs.Ytnggcldghpmeaaa
open Go.RowKit
attribute [local irreducible] Calls
theorem at_part (l : List (Int × Int)) (k : Int) : ∀ m, m ≤ l.length → ∃ a : Int, -1 ≤ a ∧ a < m ∧ (0 ≤ a → keyAt l a.toNat ≤ k) ∧ ∀ x : Nat, x < m → a < x → k < keyAt l x
  | 0, _ => ⟨-1, by omega, by omega, fun h => by omega, fun x hx => by omega⟩
  | m + 1, hm => by
    obtain ⟨a, h1, h2, h3, h4⟩ := at_part l k m (by omega)
    by_cases h : keyAt l m ≤ k
    · exact ⟨m, by omega, by omega, fun _ => by simpa using h, fun x hx hmx => by omega⟩
    · refine ⟨a, h1, by omega, h3, fun x hx hax => ?_⟩
      by_cases hxm : x = m
      · subst hxm; omega
      · exact h4 x (by omega) hax
theorem at_exists {l : List (Int × Int)} (hs : SortedE l) (k : Int) : ∃ a, IsAt l k a := by
  obtain ⟨a, h1, h2, h3, h4⟩ := at_part l k l.length (Nat.le_refl _)
  refine ⟨a, h1, h2, fun x hx hxa => ?_, h4⟩
  have := h3 (by omega)
  rcases Nat.lt_or_ge x a.toNat with h | h
  · have := hs x a.toNat h (by omega); omega
  · have e : x = a.toNat := by omega
    rw [e]; exact this
theorem at_unique {l : List (Int × Int)} {k a b : Int} (ha : IsAt l k a) (hb : IsAt l k b) : a = b := by
  obtain ⟨a1, a2, a3, a4⟩ := ha
  obtain ⟨b1, b2, b3, b4⟩ := hb
  rcases Int.lt_trichotomy a b with h | h | h
  · have h1 := b3 b.toNat (by omega) (by omega)
    have h2 := a4 b.toNat (by omega) (by omega)
    omega
  · exact h
  · have h1 := a3 a.toNat (by omega) (by omega)
    have h2 := b4 a.toNat (by omega) (by omega)
    omega
theorem At_fix {w : World} {A : Option Addr} {c : Nat} {l : List (Int × Int)} {k a : Int} (hr : Rd w A (EV l)) (hl : l.length ≤ 100000) (hs : SortedE l) (ha : IsAt l k a) :
    Calls Try.prog 41 #[.slice A l.length c, .int .i64 k] w fun e w' => e = .returned (.int .i64 a) ∧ Ext w w' := by
  refine (At_calls l k hr hl hs).mono ?_
  rintro e w' ⟨b, rfl, hb, hE⟩
  rw [at_unique ha hb]
  exact ⟨rfl, hE⟩
theorem right_sorted {k : Int} {b : List UInt8} {l : List (Int × Int)} (h : rightB k b l = true) : SortedE l := by
  unfold rightB at h
  by_cases h1 : k = 1
  · rw [if_pos h1, decide_eq_true_eq] at h
    intro x y hxy hy
    omega
  · rw [if_neg h1] at h
    by_cases h2 : k = 2 ∨ k = 3
    · rw [if_pos h2, Bool.and_eq_true] at h
      exact rises_sorted h.2
    · rw [if_neg h2] at h; cases h
theorem key_cell {w : World} {A : Option Addr} {l : List (Int × Int)} (hr : Rd w A (EV l)) (i : Nat) (hi : i < l.length) : ∃ ad, A = some ad ∧ w.cell? (ad.add (i * 2)) = some (.int .i64 (keyAt l i)) := by
  obtain ⟨ad, rfl, hat⟩ := EV_at hr i hi
  have := hat.out 0 _ rfl
  rw [add_of_add] at this
  refine ⟨ad, rfl, ?_⟩
  have e : keyAt l i = l[i].1 := by simp [keyAt, hi]
  rw [e]; exact this
set_option maxHeartbeats 4000000 in
theorem places_long {w : World} (nv : Array Value) (A : Option Addr) (n c : Nat) (key : Int) (hs : nv.size = 18) (N17 : nv[17]? = some (.slice A n c)) (hn : 50 < n) (hm : n ≤ 9223372036854775807) :
    Calls Try.prog 9 #[.agg nv, .int .i64 key] w fun e w' => e = .returned (.bool true) ∧ Ext w w' := by
  have HS : Hid ((Try.prog.info? 50).map (·.size) = some nv.size) := hid (by rw [hs]; exact sz50)
  clear hs
  go_enter Try.func9, Try.ntmps9
  go_wp2_with (go_at_call 37; refine (leafAlive_calls _).mono ?_; rintro e w1 ⟨rfl, hE1⟩; have E1 := (Ext.rfl'.al _).tr hE1; have B1 := (Blk.new w 50 nv).ext hE1; have c17 := (B1.cell 17).trans N17)
  go_ret
  exact ⟨rfl, E1⟩
set_option maxHeartbeats 4000000 in
theorem places_wrong {w : World} (nv : Array Value) (A : Option Addr) (n c : Nat) (key : Int) (hs : nv.size = 18) (N17 : nv[17]? = some (.slice A n c)) (hn : n ≤ 50) (RT : ∀ W, Ext w W → Hid (Calls Try.prog 40 #[.agg nv] W fun e w' => e = .returned (.bool false) ∧ Ext W w')) :
    Calls Try.prog 9 #[.agg nv, .int .i64 key] w fun e w' => e = .returned (.bool true) ∧ Ext w w' := by
  have HS : Hid ((Try.prog.info? 50).map (·.size) = some nv.size) := hid (by rw [hs]; exact sz50)
  clear hs
  have HD : Hid (decide ((50 : Int) < (n : Int)) = false) := hid (by simp; omega)
  go_enter Try.func9, Try.ntmps9
  go_wp2_with (first
    | (refine fit (.binOp .lss 3 (.tmp 30) (.const (.int .i64 0)) 3) ?_; refine stop ?_)
    | (go_at_call 37; refine (leafAlive_calls _).mono ?_; rintro e w1 ⟨rfl, hE1⟩; have E1 := (Ext.rfl'.al _).tr hE1; have B1 := (Blk.new w 50 nv).ext hE1; have c17 := (B1.cell 17).trans N17)
    | (refine fit (.load 50 (.tmp 2)) ?_; try rw [HD.out]; refine wpl_do rfl (wp_load 50 (.tmp 2) rfl rfl B1 Try.underlying50 rfl HS.out ?_))
    | (go_at_call 40; refine (RT _ E1).out.mono ?_; rintro e w2 ⟨rfl, hE2⟩; have E2 := E1.tr hE2; have B2 := B1.ext hE2; have d17 := (B2.cell 17).trans N17)
    | (go_at_call 41; refine (AT _ E2).out.mono ?_; rintro e w3 ⟨rfl, hE3⟩; have E3 := E2.tr hE3; have B3 := B2.ext hE3; have e17 := (B3.cell 17).trans N17))
  go_ret
  exact ⟨rfl, E2⟩
set_option maxHeartbeats 4000000 in
theorem places_none {w : World} (nv : Array Value) (A : Option Addr) (n c : Nat) (key : Int) (hs : nv.size = 18) (N17 : nv[17]? = some (.slice A n c)) (hn : Hid (n = 0)) (RT : ∀ W, Ext w W → Hid (Calls Try.prog 40 #[.agg nv] W fun e w' => e = .returned (.bool true) ∧ Ext W w')) (AT : ∀ W, Ext w W → Hid (Calls Try.prog 41 #[.slice A n c, .int .i64 key] W fun e w' => e = .returned (.int .i64 (-1)) ∧ Ext W w')) :
    Calls Try.prog 9 #[.agg nv, .int .i64 key] w fun e w' => e = .returned (.bool true) ∧ Ext w w' := by
  have HS : Hid ((Try.prog.info? 50).map (·.size) = some nv.size) := hid (by rw [hs]; exact sz50)
  clear hs
  have HD : Hid (decide ((50 : Int) < (n : Int)) = false) := hid (by have := hn.out; simp; omega)
  go_enter Try.func9, Try.ntmps9
  go_wp2_with (first
    | (refine fit (.binOp .lss 3 (.tmp 30) (.const (.int .i64 0)) 3) ?_; refine stop ?_)
    | (go_at_call 37; refine (leafAlive_calls _).mono ?_; rintro e w1 ⟨rfl, hE1⟩; have E1 := (Ext.rfl'.al _).tr hE1; have B1 := (Blk.new w 50 nv).ext hE1; have c17 := (B1.cell 17).trans N17)
    | (refine fit (.load 50 (.tmp 2)) ?_; try rw [HD.out]; refine wpl_do rfl (wp_load 50 (.tmp 2) rfl rfl B1 Try.underlying50 rfl HS.out ?_))
    | (go_at_call 40; refine (RT _ E1).out.mono ?_; rintro e w2 ⟨rfl, hE2⟩; have E2 := E1.tr hE2; have B2 := B1.ext hE2; have d17 := (B2.cell 17).trans N17)
    | (go_at_call 41; refine (AT _ E2).out.mono ?_; rintro e w3 ⟨rfl, hE3⟩; have E3 := E2.tr hE3; have B3 := B2.ext hE3; have e17 := (B3.cell 17).trans N17))
  refine ⟨?_⟩
  obtain rfl := hn.out
  go_wp2
  go_ret
  exact ⟨rfl, E3⟩
set_option maxHeartbeats 4000000 in
theorem places_first {w : World} (nv : Array Value) (ad : Addr) (n c : Nat) (key : Int) (hs : nv.size = 18) (N17 : nv[17]? = some (.slice (some ad) n c)) (hn : 0 < n) (hn5 : n ≤ 50) (k1 : Int) (RT : ∀ W, Ext w W → Hid (Calls Try.prog 40 #[.agg nv] W fun e w' => e = .returned (.bool true) ∧ Ext W w')) (AT : ∀ W, Ext w W → Hid (Calls Try.prog 41 #[.slice (some ad) n c, .int .i64 key] W fun e w' => e = .returned (.int .i64 (-1)) ∧ Ext W w')) (C1 : ∀ W, Ext w W → W.cell? ad = some (.int .i64 k1)) (hk1 : key < k1) :
    Calls Try.prog 9 #[.agg nv, .int .i64 key] w fun e w' => e = .returned (.bool true) ∧ Ext w w' := by
  have HS : Hid ((Try.prog.info? 50).map (·.size) = some nv.size) := hid (by rw [hs]; exact sz50)
  clear hs
  have HD : Hid (decide ((50 : Int) < (n : Int)) = false) := hid (by simp; omega)
  go_enter Try.func9, Try.ntmps9
  go_wp2_with (first
    | (refine fit (.binOp .lss 3 (.tmp 30) (.const (.int .i64 0)) 3) ?_; refine stop ?_)
    | (go_at_call 37; refine (leafAlive_calls _).mono ?_; rintro e w1 ⟨rfl, hE1⟩; have E1 := (Ext.rfl'.al _).tr hE1; have B1 := (Blk.new w 50 nv).ext hE1; have c17 := (B1.cell 17).trans N17)
    | (refine fit (.load 50 (.tmp 2)) ?_; try rw [HD.out]; refine wpl_do rfl (wp_load 50 (.tmp 2) rfl rfl B1 Try.underlying50 rfl HS.out ?_))
    | (go_at_call 40; refine (RT _ E1).out.mono ?_; rintro e w2 ⟨rfl, hE2⟩; have E2 := E1.tr hE2; have B2 := B1.ext hE2; have d17 := (B2.cell 17).trans N17)
    | (go_at_call 41; refine (AT _ E2).out.mono ?_; rintro e w3 ⟨rfl, hE3⟩; have E3 := E2.tr hE3; have B3 := B2.ext hE3; have e17 := (B3.cell 17).trans N17; have f1 := C1 _ E3))
  refine ⟨?_⟩
  go_wp2
  go_ret
  exact ⟨rfl, E3⟩
set_option maxHeartbeats 4000000 in
theorem places_last {w : World} (nv : Array Value) (ad : Addr) (n c : Nat) (key : Int) (hs : nv.size = 18) (N17 : nv[17]? = some (.slice (some ad) n c)) (i : Nat) (hn : n = i + 1) (hn5 : n ≤ 50) (k0 : Int) (RT : ∀ W, Ext w W → Hid (Calls Try.prog 40 #[.agg nv] W fun e w' => e = .returned (.bool true) ∧ Ext W w')) (AT : ∀ W, Ext w W → Hid (Calls Try.prog 41 #[.slice (some ad) n c, .int .i64 key] W fun e w' => e = .returned (.int .i64 (i : Int)) ∧ Ext W w')) (C0 : ∀ W, Ext w W → W.cell? (ad.add (i * 2)) = some (.int .i64 k0)) (hk0 : k0 ≤ key) :
    Calls Try.prog 9 #[.agg nv, .int .i64 key] w fun e w' => e = .returned (.bool true) ∧ Ext w w' := by
  have HS : Hid ((Try.prog.info? 50).map (·.size) = some nv.size) := hid (by rw [hs]; exact sz50)
  clear hs
  subst hn
  have HD : Hid (decide ((50 : Int) < (i : Int) + 1) = false) := hid (by simp; omega)
  go_enter Try.func9, Try.ntmps9
  go_wp2_with (first
    | (refine fit (.binOp .lss 3 (.tmp 30) (.const (.int .i64 0)) 3) ?_; refine stop ?_)
    | (go_at_call 37; refine (leafAlive_calls _).mono ?_; rintro e w1 ⟨rfl, hE1⟩; have E1 := (Ext.rfl'.al _).tr hE1; have B1 := (Blk.new w 50 nv).ext hE1; have c17 := (B1.cell 17).trans N17)
    | (refine fit (.load 50 (.tmp 2)) ?_; try rw [HD.out]; refine wpl_do rfl (wp_load 50 (.tmp 2) rfl rfl B1 Try.underlying50 rfl HS.out ?_))
    | (go_at_call 40; refine (RT _ E1).out.mono ?_; rintro e w2 ⟨rfl, hE2⟩; have E2 := E1.tr hE2; have B2 := B1.ext hE2; have d17 := (B2.cell 17).trans N17)
    | (go_at_call 41; refine (AT _ E2).out.mono ?_; rintro e w3 ⟨rfl, hE3⟩; have E3 := E2.tr hE3; have B3 := B2.ext hE3; have e17 := (B3.cell 17).trans N17; have f0 := C0 _ E3))
  refine ⟨?_⟩
  go_wp2
  go_ret
  exact ⟨rfl, E3⟩
set_option maxHeartbeats 4000000 in
theorem places_mid {w : World} (nv : Array Value) (ad : Addr) (n c : Nat) (key : Int) (hs : nv.size = 18) (N17 : nv[17]? = some (.slice (some ad) n c)) (i : Nat) (hn : i + 1 < n) (hn5 : n ≤ 50) (k0 k1 : Int) (RT : ∀ W, Ext w W → Hid (Calls Try.prog 40 #[.agg nv] W fun e w' => e = .returned (.bool true) ∧ Ext W w')) (AT : ∀ W, Ext w W → Hid (Calls Try.prog 41 #[.slice (some ad) n c, .int .i64 key] W fun e w' => e = .returned (.int .i64 (i : Int)) ∧ Ext W w')) (C0 : ∀ W, Ext w W → W.cell? (ad.add (i * 2)) = some (.int .i64 k0)) (C1 : ∀ W, Ext w W → W.cell? (ad.add ((i + 1) * 2)) = some (.int .i64 k1)) (hk0 : k0 ≤ key) (hk1 : key < k1) :
    Calls Try.prog 9 #[.agg nv, .int .i64 key] w fun e w' => e = .returned (.bool true) ∧ Ext w w' := by
  have HS : Hid ((Try.prog.info? 50).map (·.size) = some nv.size) := hid (by rw [hs]; exact sz50)
  clear hs
  have HD : Hid (decide ((50 : Int) < (n : Int)) = false) := hid (by simp; omega)
  go_enter Try.func9, Try.ntmps9
  go_wp2_with (first
    | (refine fit (.binOp .lss 3 (.tmp 30) (.const (.int .i64 0)) 3) ?_; refine stop ?_)
    | (go_at_call 37; refine (leafAlive_calls _).mono ?_; rintro e w1 ⟨rfl, hE1⟩; have E1 := (Ext.rfl'.al _).tr hE1; have B1 := (Blk.new w 50 nv).ext hE1; have c17 := (B1.cell 17).trans N17)
    | (refine fit (.load 50 (.tmp 2)) ?_; try rw [HD.out]; refine wpl_do rfl (wp_load 50 (.tmp 2) rfl rfl B1 Try.underlying50 rfl HS.out ?_))
    | (go_at_call 40; refine (RT _ E1).out.mono ?_; rintro e w2 ⟨rfl, hE2⟩; have E2 := E1.tr hE2; have B2 := B1.ext hE2; have d17 := (B2.cell 17).trans N17)
    | (go_at_call 41; refine (AT _ E2).out.mono ?_; rintro e w3 ⟨rfl, hE3⟩; have E3 := E2.tr hE3; have B3 := B2.ext hE3; have e17 := (B3.cell 17).trans N17; have f0 := C0 _ E3; have f1 := C1 _ E3))
  refine ⟨?_⟩
  go_wp2
  go_ret
  exact ⟨rfl, E3⟩
theorem places_calls {w : World} {A : Option Addr} {c : Nat} (k : Int) (b : List UInt8) (l : List (Int × Int)) (key : Int) (hb : b.length = 16) (hr : Rd w A (EV l)) (hm : l.length ≤ 9223372036854775807) :
    Calls Try.prog 9 #[.agg (NV k b A l.length c), .int .i64 key] w fun e w' => e = .returned (.bool true) ∧ Ext w w' := by
  have hs := NV_size (k := k) (A := A) (n := l.length) (c := c) hb
  have N17 := NV17 (k := k) (A := A) (n := l.length) (c := c) hb
  by_cases hn : 50 < l.length
  · exact places_long _ A l.length c key hs N17 hn hm
  have RT := fun W (h : Ext w W) => hid (Right_calls (c := c) k b l hb (hr.ext h) (by omega))
  cases hR : rightB k b l
  · rw [hR] at RT
    exact places_wrong _ A l.length c key hs N17 (by omega) RT
  rw [hR] at RT
  have hso := right_sorted hR
  obtain ⟨a, ha⟩ := at_exists hso key
  have AT := fun W (h : Ext w W) => hid (At_fix (c := c) (hr.ext h) (by omega) hso ha)
  obtain ⟨a1, a2, a3, a4⟩ := ha
  by_cases hneg : a < 0
  · obtain rfl : a = -1 := by omega
    by_cases h0 : l.length = 0
    · exact places_none _ A l.length c key hs N17 (hid h0) RT AT
    · obtain ⟨ad, rfl, _⟩ := key_cell hr 0 (by omega)
      refine places_first _ ad l.length c key hs N17 (by omega) (by omega) (keyAt l 0) RT AT (fun W hW => ?_) (a4 0 (by omega) (by omega))
      obtain ⟨ad', e, h⟩ := key_cell (hr.ext hW) 0 (by omega)
      cases e
      simpa [Addr.add] using h
  · obtain ⟨i, rfl⟩ := Int.eq_ofNat_of_zero_le (show 0 ≤ a by omega)
    obtain ⟨ad, rfl, _⟩ := key_cell hr i (by omega)
    have C0 : ∀ W, Ext w W → W.cell? (ad.add (i * 2)) = some (.int .i64 (keyAt l i)) := by
      intro W hW
      obtain ⟨ad', e, h⟩ := key_cell (hr.ext hW) i (by omega)
      cases e
      exact h
    have hk0 := a3 i (by omega) (by omega)
    by_cases hl : i + 1 = l.length
    · exact places_last _ ad l.length c key hs N17 i hl.symm (by omega) (keyAt l i) RT AT C0 hk0
    · refine places_mid _ ad l.length c key hs N17 i (by omega) (by omega) (keyAt l i) (keyAt l (i + 1)) RT AT C0 (fun W hW => ?_) hk0 (a4 (i + 1) (by omega) (by omega))
      obtain ⟨ad', e, h⟩ := key_cell (hr.ext hW) (i + 1) (by omega)
      cases e
      exact h
end Go.Proofs.Ytnggcldghpmeaaa
