/- The stand-in for a disk: reading it, walked. -/
import Derived.Test.YtnggcldghpmeaaaD1
set_option linter.unusedVariables false
set_option linter.unusedSimpArgs false
set_option maxRecDepth 100000
namespace Go.Proofs.Ytnggcldghpmeaaa
open Go.RowKit
attribute [local irreducible] Calls
section
variable {w : World} {lo g S M ck pc : Nat} {ds : DS} {Pd : Option Addr}
theorem DiskAt.ext {w' : World} (D : DiskAt w lo g ds S M ck Pd pc) (e : Ext w w') : DiskAt w' lo g ds S M ck Pd pc :=
  ⟨D.blk.ext e, D.sb.ext e, by
    have hM : M < w.heap.size := Nat.lt_trans D.o3 D.blk.lt
    exact (e.block M hM).trans D.mp, D.own.ext e, D.o1, D.o2, D.o3, D.pg⟩
theorem DiskAt.dr1 (D : DiskAt w lo g ds S M ck Pd pc) : DiskAt w.drew lo g ds S M ck Pd pc :=
  ⟨D.blk.dr1, D.sb.dr1, D.mp, D.own.dr1, D.o1, D.o2, D.o3, D.pg⟩
set_option maxHeartbeats 1000000 in
theorem there_calls (D : DiskAt w lo g ds S M ck Pd pc) (i : Int) (h0 : 0 ≤ i) (b : Bool) (hb : b = decide (i < ds.st.length)) : Calls Try.prog 145 #[.pointer (some ⟨g, 0, none⟩), .int .i64 i] w fun e w' => e = .returned (.bool b) ∧ w = w' := by
  have c0 : w.cell? ⟨g, 0, none⟩ = some (.slice (some ⟨S, 0, none⟩) ds.st.length ds.st.length) := D.blk.cell 0
  have HB := hid hb
  clear hb
  clear D
  go_enter Try.func145, Try.ntmps145
  go_wp2
  go_ret
  refine ⟨?_, rfl⟩
  rw [HB.out]; rfl
theorem flat_page : ∀ (l : List (List UInt8)) (i : Nat) (h : i < l.length), (∀ p ∈ l, p.length = 256) → (l.flatten.drop (i * 256)).take 256 = l[i]
  | p :: l, 0, _, hp => by
    have := hp p (by simp)
    simp [this]
  | p :: l, i + 1, h, hp => by
    have h1 := hp p (by simp)
    have ih := flat_page l i (by simpa using h) (fun q hq => hp q (by simp [hq]))
    rw [List.flatten_cons, Nat.succ_mul, Nat.add_comm (i * 256) 256, ← List.drop_drop, ← h1, List.drop_left, h1]
    simpa using ih
theorem DiskAt.page (D : DiskAt w lo g ds S M ck Pd pc) (i : Nat) (h : i < ds.st.length) : At w ⟨S, i * 256, none⟩ (BV ds.st[i]) := by
  have h1 := ((At.blk D.sb).drop (i * 256)).take 256
  have e : ((BV ds.st.flatten).toArray.toList.drop (i * 256)).take 256 = BV ds.st[i] := by
    show ((BV ds.st.flatten).drop (i * 256)).take 256 = _
    rw [← BV_drop, ← BV_take, flat_page _ i h D.pg]
  rw [e] at h1
  have e2 : (⟨S, 0, none⟩ : Addr).add (i * 256) = ⟨S, i * 256, none⟩ := by
    unfold Addr.add; by_cases hj : i * 256 = 0 <;> simp [hj]
  rw [e2] at h1
  exact h1
set_option maxHeartbeats 1000000 in
theorem Stable_in (D : DiskAt w lo g ds S M ck Pd pc) (i : Nat) (h : i < ds.st.length) (y : Int) (hy : y = i) : Calls Try.prog 85 #[.pointer (some ⟨g, 0, none⟩), .int .i64 y] w fun e w' => e = .returned (.tuple #[.agg (BV ds.st[i]).toArray, .int .i64 0]) ∧ Ext w w' := by
  have T := fun W (h : Ext w W) => hid (there_calls (D.ext h) y (by omega) true (by simp; omega))
  have c0 : ∀ W, Ext w W → W.cell? ⟨g, 0, none⟩ = some (.slice (some ⟨S, 0, none⟩) ds.st.length ds.st.length) := fun W h => (D.ext h).blk.cell 0
  have A0 := fun W (hW : Ext w W) => hid ((D.ext hW).page i h)
  have HL := hid (D.pg _ (List.getElem_mem h))
  have HS := hid (BV_size sz28 HL.out)
  have HZ : Hid (Try.zeroCells28.size = (BV ds.st[i]).toArray.size) := hid (by rw [z28]; exact BV_sizes (by rw [HL.out]; simp))
  generalize ds.st[i] = p at *
  subst hy
  go_enter Try.func85, Try.ntmps85
  have HI : Hid ((Try.prog.info? 28).map (·.size) = some (BV p).length) := hid (by rw [BV_length, HL.out]; exact sz28)
  go_wp2_with (first
    | (go_at_call 145; refine (T _ (Ext.rfl'.al _)).out.mono ?_; rintro e w1 ⟨rfl, rfl⟩; have c1 := c0 _ (Ext.rfl'.al (.cells Try.zeroCells28 28)))
    | (refine fit (.load 28 (.tmp 16)) ?_; refine wpl_do rfl (wp_loadAt 28 (.tmp 16) rfl rfl (BV p) (A0 _ (Ext.rfl'.al _)).out Try.underlying28 rfl HI.out ?_))
    | (refine fit (.store 28 (.tmp 4) (.tmp 17)) ?_; refine wpl_fresh rfl 28 (.tmp 4) (.tmp 17) rfl rfl rfl HS.out HZ.out (BV_all _) ?_; intro W1 E1 Z1 hs1))
  exact ret2 rfl (RV.cell rfl Z1 Try.underlying28 rfl HS.out) (RV.tmp rfl) rfl ⟨rfl, E1⟩
set_option maxHeartbeats 1000000 in
theorem Stable_out (D : DiskAt w lo g ds S M ck Pd pc) (y : Int) (h0 : 0 ≤ y) (h : ¬ y < ds.st.length) : Calls Try.prog 85 #[.pointer (some ⟨g, 0, none⟩), .int .i64 y] w fun e w' => e = .returned (.tuple #[.agg (BV (List.replicate 256 0)).toArray, .int .i64 41]) ∧ Ext w w' := by
  have T := fun W (h' : Ext w W) => hid (there_calls (D.ext h') y h0 false (by simp; omega))
  have HZ0 := hid (BV_size sz28 (show (List.replicate 256 (0 : UInt8)).length = 256 by simp))
  have HZ1 : Hid ((Try.prog.info? 28).map (·.size) = some Try.zeroCells28.size) := hid (by rw [z28]; exact HZ0.out)
  have HZ3 : Hid (Try.zeroCells28.all (·.oneCell') = true) := hid (by rw [z28]; exact BV_all _)
  go_enter Try.func85, Try.ntmps85
  go_wp2_with (first
    | (go_at_call 145; refine (T _ (Ext.rfl'.al _)).out.mono ?_; rintro e w1 ⟨rfl, rfl⟩)
    | (refine fit (.store 28 (.tmp 4) (.tmp 10)) ?_; refine wpl_fresh rfl 28 (.tmp 4) (.tmp 10) rfl rfl rfl HZ1.out rfl HZ3.out ?_; intro W1 E1 Z1 hs1))
  rw [z28] at Z1
  exact ret2 rfl (RV.cell rfl Z1 Try.underlying28 rfl HZ0.out) (RV.tmp rfl) rfl ⟨rfl, E1⟩
end
end Go.Proofs.Ytnggcldghpmeaaa
