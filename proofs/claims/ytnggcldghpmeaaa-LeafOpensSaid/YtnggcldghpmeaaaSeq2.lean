/- A region that draws its order and ends in a store into a cell that it has read: walked in one order, the last operation apart. -/
import Derived.Test.YtnggcldghpmeaaaMid
set_option linter.unusedVariables false
set_option maxRecDepth 100000
namespace Go.Proofs.Ytnggcldghpmeaaa
open Go.RowKit
section
variable {P : Program} {ops : Array Oper} {Q : Exit → Act → World → Prop} {S : World → Prop} {k : Nat}
/-- Another end of the walk does not touch what an operation asks for. -/
theorem wpOp_Q {Q' : Exit → Act → World → Prop} (h : ∀ e a w, e ≠ .normal → Q' e a w → Q e a w) (hl : LetsOut Q' → LetsOut Q) {i : Nat} {K : Act → World → Prop} {a : Act} {w : World} (hh : wpOp P ops Q' i K a w) : wpOp P ops Q i K a w := by
  unfold wpOp at *
  cases ho : ops[i]? with
  | none => simpa [ho] using hh
  | some o =>
    simp only [ho] at hh ⊢
    by_cases hw : Region.wanted o (yielded ops a.tmps) = true
    · rw [if_pos hw] at hh ⊢
      rcases hh with hh | hh
      · left
        unfold Oper.wp at *
        generalize (execOp a.eval o).run P w = r at *
        cases r with
        | ok n w' =>
          cases n <;> simp only [Oper.upon] at hh ⊢
          all_goals first
            | exact hh
            | (refine Calls.mono hh fun e w'' he => ?_
               cases e with
               | returned u => exact he
               | panicked c => exact h _ _ _ (by simp) he
               | outgrown => exact hl he)
        | halt x w' => cases x <;> simp only [Oper.upon] at hh ⊢ <;> first | exact h _ _ _ (by simp) hh | exact hh
      · exact .inr ⟨hh.1, hl hh.2⟩
    · rw [if_neg hw] at hh ⊢; exact hh
/-- Whatever order: S holds behind every operation but number k. -/
def AnyBut (P : Program) (ops : Array Oper) (Q : Exit → Act → World → Prop) (S : World → Prop) (k : Nat) : Nat → Array Bool → Act → World → Prop
  | 0, listed, a, w => Region.ready .any ops listed = [] ∧ Q .normal a w
  | fuel + 1, listed, a, w => (Region.ready .any ops listed = [] → Q .normal a w) ∧
      ∀ i ∈ Region.ready .any ops listed, wpOp P ops Q i (fun a' w' => (i ≠ k → S w') ∧ AnyBut P ops Q S k fuel (listed.setIfInBounds i true) a' w') a w
theorem AnyBut.any : ∀ (fuel : Nat) (listed : Array Bool) (a : Act) (w : World), AnyBut P ops Q S k fuel listed a w → wpAny P .any ops Q fuel listed a w
  | 0, _, _, _, h => h
  | fuel + 1, _, _, _, h => ⟨h.1, fun i hi => wpOp_mono (fun a' w' h' => any fuel _ a' w' h'.2) (h.2 i hi)⟩
/-- Number k waits for number i. -/
def waits (ops : Array Oper) (k i : Nat) : Bool := i != k && match ops[k]? with
  | some o => o.after.any fun e => Region.binds .any e && e.on == i
  | none => false
theorem waits_not {i : Nat} {listed : Array Bool} (h : waits ops k i = true) (hi : i ∈ Region.ready .any ops listed) : k ∉ Region.ready .any ops listed := by
  intro hk
  unfold waits at h
  rw [Bool.and_eq_true] at h
  obtain ⟨_, o, ho, hall⟩ := mem_ready.1 hk
  have h2 := h.2
  rw [ho] at h2
  simp only [Array.any_eq_true'] at h2
  obtain ⟨e, he, hb⟩ := h2
  simp only [Bool.and_eq_true, beq_iff_eq] at hb
  have h1 := hall e he hb.1
  have h0 := (mem_ready.1 hi).1
  rw [hb.2] at h1
  rcases Nat.lt_or_ge i listed.size with h' | h'
  · simp [h'] at h0 h1; rw [h0] at h1; cases h1
  · simp [Array.getElem?_eq_none h'] at h1
theorem AnyBut.first {i : Nat} {oi : Oper} {v : Value} (hi : ops[i]? = some oi) (hwt : waits ops k i = true) (hsel : ∀ (j : Nat) (o : Oper) cs b, ops[j]? = some o → o.op ≠ .select cs b)
    (hQ : ∀ c a w, Q (.panic c) (a.put oi.dst v) w → Q (.panic c) a w) : ∀ (fuel : Nat) (listed : Array Bool) (a : Act) (w : World),
      (∀ j oj, ops[j]? = some oj → j ≠ i → listed.getD j true = false → (∀ e ∈ oj.after, Region.binds .any e = true → e.on ≠ i) → oi.apart ops oj = true) →
      i ∈ Region.ready .any ops listed → YieldsIf P ops S oi v a → S w →
      AnyBut P ops Q S k fuel (listed.setIfInBounds i true) (a.put oi.dst v) w → AnyBut P ops Q S k (fuel + 1) listed a w
  | 0, listed, a, w, _, hr, hy, hS, H => by
    refine ⟨fun h => absurd hr (by rw [h]; simp), fun j hj => ?_⟩
    by_cases hji : j = i
    · subst hji; exact hy.wpOp hi hS ⟨fun _ => hS, H⟩
    · have := ready_mono hj hji
      rw [H.1] at this
      cases this
  | fuel + 1, listed, a, w, hfree, hr, hy, hS, H => by
    refine ⟨fun h => absurd hr (by rw [h]; simp), fun j hj => ?_⟩
    by_cases hji : j = i
    · subst hji; exact hy.wpOp hi hS ⟨fun _ => hS, H⟩
    have hjk : j ≠ k := fun e => waits_not hwt hr (e ▸ hj)
    have h1 := H.2 j (ready_mono hj hji)
    obtain ⟨hjun, oj, hoj, hall⟩ := mem_ready.1 hj
    have hnot : ∀ e ∈ oj.after, Region.binds .any e = true → e.on ≠ i := fun e he hb heq => by
      have h1 := hall e he hb
      have h0 := (mem_ready.1 hr).1
      rw [heq] at h1
      rcases Nat.lt_or_ge i listed.size with h' | h'
      · simp [h'] at h0 h1; rw [h0] at h1; cases h1
      · simp [Array.getElem?_eq_none h'] at h1
    have h2 := wpOp_putIf hoj (hfree j oj hoj hji hjun hnot) (fun cs b => hsel i oi cs b hi) (fun cs b => hsel j oj cs b hoj) hQ hy h1
    refine wpOp_mono (fun a' w' h3 => ⟨fun _ => h3.2.1 hjk, first hi hwt hsel hQ fuel (listed.setIfInBounds j true) a' w' (fun m om hm hmi hun hno => ?_) (ready_mono hr (Ne.symm hji)) h3.1 (h3.2.1 hjk) ?_⟩) h2
    · refine hfree m om hm hmi ?_ hno
      by_cases hjm : j = m
      · subst hjm; exact hjun
      · rw [getD_set_ne true hjm] at hun; exact hun
    · rw [Array.setIfInBounds_comm _ _ hji]
      exact h3.2.2
/-- The end of the walk: the last operation is still to come. -/
def Last (P : Program) (ops : Array Oper) (Q : Exit → Act → World → Prop) (k : Nat) : Exit → Act → World → Prop
  | .normal, a, w => wpOp P ops Q k (Q .normal) a w
  | e, a, w => Q e a w
def seqOKL (ops : Array Oper) (k : Nat) : List Nat → Array Bool → Bool
  | [], listed => Region.ready .any ops listed == [k] && (Region.ready .any ops (listed.setIfInBounds k true)).isEmpty
  | i :: r, listed => i != k && (match ops[i]? with
    | none => false
    | some o => Region.ready .any ops listed == [i] || (!heavy o.op && waits ops k i && Region.free .any ops listed i && (Region.ready .any ops listed).contains i)) && seqOKL ops k r (listed.setIfInBounds i true)
theorem AnyBut.seq (hs : Region.noSelect ops = true) (hQ : ∀ c a w d v, Q (.panic c) (Act.put a d v) w → Q (.panic c) a w) (hl : LetsOut (Last P ops Q k) → LetsOut Q) : ∀ (l : List Nat) (fuel : Nat) (listed : Array Bool) (a : Act) (w : World),
    l.length + 1 ≤ fuel → seqOKL ops k l listed = true → S w → Seq P ops (Last P ops Q k) S l a w → AnyBut P ops Q S k fuel listed a w
  | [], 0, listed, a, w, hl', hck, _, h => by simp at hl'
  | [], fuel + 1, listed, a, w, _, hck, _, h => by
    unfold seqOKL at hck
    rw [Bool.and_eq_true] at hck
    have hr : Region.ready .any ops listed = [k] := by simpa using hck.1
    have hr2 : Region.ready .any ops (listed.setIfInBounds k true) = [] := by simpa using hck.2
    refine ⟨fun h0 => (by rw [hr] at h0; cases h0), ?_⟩
    rw [hr]
    intro i hi
    obtain rfl : i = k := by simpa using hi
    have h : wpOp P ops Q i (Q .normal) a w := h
    refine wpOp_mono (fun a' w' h' => ⟨fun hne => absurd rfl hne, ?_⟩) h
    cases fuel with
    | zero => exact ⟨hr2, h'⟩
    | succ f => exact ⟨fun _ => h', by rw [hr2]; simp⟩
  | i :: r, 0, _, _, _, hl', _, _, _ => by simp at hl'
  | i :: r, fuel + 1, listed, a, w, hl', hck, hS, h => by
    unfold seqOKL at hck
    unfold Seq at h
    rw [Bool.and_eq_true, Bool.and_eq_true] at hck
    obtain ⟨⟨hik, hck⟩, hck2⟩ := hck
    have hik : i ≠ k := by simpa using hik
    cases ho : ops[i]? with
    | none => simp [ho] at hck
    | some o =>
      simp only [ho] at hck h
      rw [Bool.or_eq_true] at hck
      have alone : Region.ready .any ops listed = [i] → wpOp P ops Q i (fun a' w' => S w' ∧ Seq P ops (Last P ops Q k) S r a' w') a w → AnyBut P ops Q S k (fuel + 1) listed a w := by
        intro hr h
        refine ⟨fun h0 => (by rw [hr] at h0; cases h0), ?_⟩
        rw [hr]
        intro j hj
        obtain rfl : j = i := by simpa using hj
        exact wpOp_mono (fun a' w' h' => ⟨fun _ => h'.1, AnyBut.seq hs hQ hl r fuel _ a' w' (by simpa using hl') hck2 h'.1 h'.2⟩) h
      by_cases hh : heavy o.op = true
      · rw [if_pos hh] at h
        rcases hck with hck | hck
        · refine alone (by simpa using hck) (wpOp_Q (fun e a w hne h => ?_) hl h)
          cases e <;> first | exact absurd rfl hne | exact h
        · simp [hh] at hck
      · rw [if_neg hh] at h
        obtain ⟨v, hy, h⟩ := h
        rcases hck with hck | hck
        · exact alone (by simpa using hck) (hy.wpOp ho hS ⟨hS, h⟩)
        · simp only [Bool.and_eq_true] at hck
          exact AnyBut.first ho hck.1.1.2 (Region.noSelect_spec hs) (fun c a w h => hQ c a w _ _ h) fuel listed a w (Region.free_spec ho hck.1.2) (by simpa using hck.2) hy hS
            (AnyBut.seq hs hQ hl r fuel _ _ w (by simpa using hl') hck2 hS h)
/-- A region that draws, in the order handed in, number k last. -/
theorem seqL {id : Nat} {a : Act} {w : World} (S : World → Prop) (l : List Nat) (k : Nat) (hm : P.follows .mixedOrders = true) (hs : Region.noSelect ops = true)
    (hck : seqOKL ops k l (Array.replicate ops.size false) = true) (hl : l.length + 1 ≤ ops.size) (hQ : ∀ c a w t v, Q (.panic c) (Act.put a (some t) v) w → Q (.panic c) a w)
    (hS : S w.drew) (h : Seq P ops (Last P ops Q k) S l a w.drew) : (Code.region id ops true).wp P Q a w :=
  wp_region_any hm (AnyBut.any _ _ _ _ (AnyBut.seq hs (fun c a w d v h => by cases d with | none => exact h | some t => exact hQ c a w t v h) (fun h => h) l _ _ a _ hl hck hS h))
/-- The last operation. -/
theorem seq_last {a : Act} {w : World} {o : Oper} (ho : ops[k]? = some o) (hw : Region.wanted o (yielded ops a.tmps) = true) (h : o.wp P a w (Q .normal) Q) : Seq P ops (Last P ops Q k) S [] a w := by
  show wpOp P ops Q k (Q .normal) a w
  unfold wpOp
  simp only [ho, hw, if_true]
  exact .inl h
end
end Go.Proofs.Ytnggcldghpmeaaa
