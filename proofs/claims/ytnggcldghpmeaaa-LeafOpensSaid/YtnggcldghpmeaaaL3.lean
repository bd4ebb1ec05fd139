/- What ends.Reader computes, walked on: the next number. -/
import Derived.Test.YtnggcldghpmeaaaL2
set_option linter.unusedVariables false
set_option linter.unusedSimpArgs false
set_option maxRecDepth 100000
namespace Go.Proofs.Ytnggcldghpmeaaa
open Go.RowKit Go.Shelf
attribute [local go_sem] Oper.semAt_some
theorem wraps_u64' (n : Int) (h₀ : 0 ≤ n) (h₁ : n < 2 ^ 64) : IntKind.u64.wrap n = n := by rw [IntKind.wrap_u64]; omega
/-- Whatever lay below n is as it was, but for block b; nothing beside the heap has turned. -/
structure But (n b : Nat) (W W' : World) : Prop where
  os : W'.os = W.os
  tape : W'.tape = W.tape
  output : W'.output = W.output
  size : W.heap.size ≤ W'.heap.size
  block : ∀ i, i < n → i ≠ b → W'.heap[i]? = W.heap[i]?
theorem But.refl (n b : Nat) (W : World) : But n b W W := ⟨rfl, rfl, rfl, Nat.le_refl _, fun _ _ _ => rfl⟩
theorem But.tr {n b : Nat} {A B C : World} (h : But n b A B) (k : But n b B C) : But n b A C :=
  ⟨k.os.trans h.os, k.tape.trans h.tape, k.output.trans h.output, Nat.le_trans h.size k.size, fun i hi hb => (k.block i hi hb).trans (h.block i hi hb)⟩
theorem But.set_ {n b : Nat} (W : World) (i : Nat) (v : Value) : But n b W (W.setCell ⟨b, i, none⟩ v) :=
  ⟨rfl, rfl, rfl, by simp [World.setCell], fun k hk hb => Below.heap_setCell _ _ _ k hb⟩
theorem But.own {β : Type} {n b : Nat} {w0 : World} (hn : n ≤ w0.heap.size) : OwnFrom n (fun (_ : β) W => But n b w0 W) := by
  intro s W W' row h hg hr
  refine ⟨hg.os.trans h.os, hg.tape.trans h.tape, hg.output.trans h.output, Nat.le_trans h.size hg.size, fun i hi hb => ?_⟩
  refine (hg.block i (Nat.lt_of_lt_of_le hi (Nat.le_trans hn h.size)) (fun e => ?_)).trans (h.block i hi hb)
  have := (hr i e.symm).1
  omega
set_option maxHeartbeats 4000000 in
theorem Num_calls {w : World} {g : Nat} {l : List UInt8} (R : RdAt w g l false) (W : Nat) (hW : IsWidth W) (hn : W ≤ l.length) (hl : l.length ≤ 100000) :
    Calls Try.prog 100 #[.pointer (some ⟨g, 0, none⟩), .int .i64 W] w fun e w' => e = .returned (.int .u64 (leN (l.take W))) ∧ RdAt w' g (l.drop W) false ∧ w.grownBy w' (some g) := by
  have hlt := R.lt
  have TK := fun W' (h : Ext w W') => hid (Take_calls (R.ext h) W hn hl)
  have RC := fun W' => hid (right_calls W hW W')
  have HW := hid hW
  clear R hW
  refine (callsIn_wide (n := 4)).1 ?_
  refine callsIn_of_wp_marks Try.func100 rfl trivial ?_ rfl
  simp only [Try.ntmps100, List.size_toArray, List.length_cons, List.length_nil, Nat.reduceAdd, Nat.reduceSub, Array.replicate_succ, Array.replicate_zero, List.push_toArray, List.append_toArray, List.nil_append, List.cons_append]
  gi_wp2_with (first
    | (refine ⟨trivial, ?_⟩; gi_at_call 156; refine (callsIn_wide.2 (RC _).out).mono ?_; rintro e w1 ⟨rfl, rfl⟩)
    | (refine ⟨trivial, ?_⟩; gi_at_call 164; refine (callsIn_wide.2 (TK _ (Ext.rfl'.al _)).out).mono ?_; rintro e w1 ⟨A1, c1, rfl, hown, hR1, hg1⟩)
    | (refine ⟨trivial, ?_⟩; gi_at_call 167; refine (callsIn_wide.2 (Backward_calls _ _ _ _)).mono ?_; rintro e w2 ⟨rfl, rfl⟩))
  rename_i Q' K hK
  have hTl : (l.take W).length = W := by simp; omega
  have HT := hid hTl
  have B1 : Blk w1 w.heap.size 22 #[.int .u64 0] := (Blk.new w 22 #[.int .u64 0]).grown hg1 (by intro e; cases e; omega)
  have hlen : w.heap.size + 1 ≤ w1.heap.size := by have := hg1.size; simpa using this
  have hA : ∀ ad, A1 = some ad → ad.block < w1.heap.size + 1 ∧ ad.block ≠ w.heap.size := by
    intro ad ha
    subst ha
    have := hown.block ad.block rfl
    simp at this
    omega
  have HA := hid hA
  have HOW := hid hown.rd
  have HG1 := hid hg1
  have HR1 := hid hR1
  clear hA hown hg1 hR1 hTl
  obtain ⟨W2, hW2⟩ : ∃ W2, W2 = w1.alloc (.cells #[.slice A1 W c1] 63) := ⟨_, rfl⟩
  rw [← hW2]
  have hs2 : W2.heap.size = w1.heap.size + 1 := by rw [hW2]; simp
  have hE2 : Ext w1 W2 := by rw [hW2]; exact Ext.rfl'.al _
  have hbx : W2.cell? ⟨w1.heap.size, 0, none⟩ = some (.slice A1 (l.take W).length c1) := by rw [hW2, HT.out]; exact (Blk.new w1 63 #[.slice A1 W c1]).cell 0
  have HE2 := hid hE2
  clear hW2
  have hW8 : W ≤ 8 := by have := HW.out; unfold IsWidth at this; omega
  refine wpIn_rangeFunc_ownF rfl (by omega) (gf := 185) (lb := #[.pointer (some ⟨w1.heap.size, 0, none⟩)]) rfl trivial (enters_of Try.func185 (by kernel_rfl) rfl)
    (Backward_stops 3 w1.heap.size (w1.heap.size + 1) w.heap.size c1 A1 (l.take W) (by rw [HT.out]; omega) (by omega) (by omega) HA.out W2 (by omega) hbx (HOW.out.ext hE2))
    Kb.tr (Kb.put (by omega)) (Below.refl _ _) (fun _ => rfl)
    (fun pre V => Blk V w.heap.size 22 #[.int .u64 (accN pre : Int)] ∧ But W2.heap.size w.heap.size W2 V)
    (fun _ _ _ => False)
    (OwnFrom.and (fun pre V V' row h hg hr => h.grown hg (fun e => by obtain ⟨_, o, ho, hc⟩ := hr _ e.symm; rw [h.out] at ho; cases ho; simp [Obj.isCells] at hc)) (But.own (Nat.le_refl _)))
    (fun _ _ _ _ _ hs _ _ => hs) ⟨B1.ext hE2, But.refl _ _ _⟩
    (fun x => { tmps := #[.pointer (some ⟨g, 0, none⟩), .int .i64 W, undef, undef, .int .u64 0, .pointer (some ⟨w.heap.size, 0, none⟩), undef, .int .u8 (x.2.toNat : Int), .int .i64 W, .bool true, .bool false, undef, undef, undef, .pointer (some ⟨g, 0, none⟩), .int .i64 W, .slice A1 W c1, .func (.func 185) #[] #[.pointer (some ⟨w1.heap.size, 0, none⟩)], .int .i64 x.1, .int .u8 (x.2.toNat : Int), undef, undef, undef, undef, undef, undef], defers := [] }) ?assign ?body ?done ?stop
  case assign =>
    intro lp x V K hK
    unfold encB
    gi_wp2
    exact hK
  case body =>
    rintro lp pre x V ⟨hB, hBut⟩ hpl
    rw [HT.out] at hpl
    have hbd := accN_lt pre
    have hp8 : 256 ^ pre.length ≤ 256 ^ 7 := Nat.pow_le_pow_right (by omega) (by omega)
    have hyb := x.2.toNat_lt
    have hsn := hid (accN_snoc pre x)
    have hcell := hB.cell 0
    have hfz := hB.frozen 0
    obtain ⟨z, hz⟩ : ∃ z : Int, z = (accN pre : Int) := ⟨_, rfl⟩
    obtain ⟨y, hy⟩ : ∃ y : Int, y = (x.2.toNat : Int) := ⟨_, rfl⟩
    have hz0 : 0 ≤ z := by omega
    have hz1 : z < 72057594037927936 := by omega
    have hy0 : 0 ≤ y := by omega
    have hy1 : y < 256 := by omega
    rw [← hz] at hB hcell
    rw [← hy]
    have HZ := hid hz
    have HY := hid hy
    clear hz hy hbd hyb hp8
    gi_wp2
    have hor : bits .or .u64 (z * 256) y = z * 256 + y := bits_join .u64 64 (by decide) wraps_u64' 8 _ _ (by omega) (by omega) (by omega) hy0 (by omega) (by omega)
    rw [hor]
    have hv : z * 256 + y = ((accN (pre ++ [x]) : Nat) : Int) := by rw [hsn.out, HZ.out, HY.out]; omega
    refine ⟨KeepsOthers.setCell _ _ _, ⟨by simp [World.setCell], fun i hi hb => Below.heap_setCell _ _ _ i hb⟩, ?_, hBut.tr (But.set_ _ _ _)⟩
    have := hB.set_ 0 (.int .u64 (z * 256 + y))
    rw [← hv]
    simpa using this
  case done =>
    rintro D ys V hD rfl ⟨hB, hBut⟩ hK2
    rw [accN_dn] at hB
    have hc := hB.cell 0
    refine hK _ _ ?_
    gi_wp2
    refine ⟨by simp, .inl ⟨_, _, rfl, run_takeDeferred hK2, ?_⟩⟩
    refine ⟨_, results_tmp rfl _ _ _, rfl, ?_, ?_⟩
    · obtain ⟨A, c, BR, RR, hcc, hbb⟩ := HR1.out.out
      have hg' : W2.heap.size ≤ D := hD
      have key : ∀ i, i < W2.heap.size → i ≠ w.heap.size → (V.putObj D (.deferred none)).heap[i]? = W2.heap[i]? := fun i hi hne =>
        ((grownBy_putObj' V D (.deferred none)).block i (Nat.lt_of_lt_of_le hi hBut.size) (fun e => by cases e; omega)).trans (hBut.block i hi hne)
      refine ⟨A, c, ⟨(key g (by omega) (by omega)).trans (BR.ext hE2).out⟩, ?_, hcc, hbb⟩
      refine ⟨fun h0 => ?_⟩
      obtain ⟨ad, rfl, hcell⟩ := (RR.ext hE2).out h0
      refine ⟨ad, rfl, fun j u hu => ?_⟩
      have h1 := hcell j u hu
      have h2 := key (ad.add j).block (by rw [block_of_add]; have := hbb ad rfl; omega) (by rw [block_of_add]; have := hbb ad rfl; omega)
      simpa [World.cell?, h2] using h1
    · have hg' : W2.heap.size ≤ D := hD
      have g1 := HG1.out
      have p1 := grownBy_putObj' V D (.deferred none)
      refine ⟨p1.os.trans (hBut.os.trans (hE2.os.trans g1.os)), p1.tape.trans (hBut.tape.trans (hE2.tape.trans g1.tape)), p1.output.trans (hBut.output.trans (hE2.output.trans g1.output)), ?_, fun i hi hne => ?_⟩
      · have := p1.size; have := hBut.size; omega
      · refine (p1.block i (by have := hBut.size; omega) (fun e => by cases e; omega)).trans ((hBut.block i (by omega) (by omega)).trans ((hE2.block i (by omega)).trans ?_))
        exact (g1.block i (by simp; omega) hne).trans ((Ext.rfl'.al _).block i hi)
  case stop =>
    rintro D c pre V _ _ h _
    exact h.elim
end Go.Proofs.Ytnggcldghpmeaaa
