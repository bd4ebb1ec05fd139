/- A region that draws its order, walked in one order: what only reads is taken first, the others come one after another. -/
import Derived.Test.YtnggcldghpmeaaaEq
import Derived.OrdersHeld
set_option linter.unusedVariables false
set_option maxRecDepth 100000
namespace Go.Proofs.Ytnggcldghpmeaaa
open Go.RowKit
section
variable {P : Program} {ops : Array Oper} {Q : Exit → Act → World → Prop} {S : World → Prop}
/-- Ops that can change the world, or ask for more: they come up alone. -/
def heavy : Op → Bool
  | .call _ | .store .. | .alloc .. | .buildSlice .. | .box .. => true
  | _ => false
/-- Whether the list is a fair order for the region. -/
def seqOK (md : Region.Mode) (ops : Array Oper) : List Nat → Array Bool → Bool
  | [], listed => (Region.ready md ops listed).isEmpty
  | i :: r, listed => (match ops[i]? with
    | none => false
    | some o => if heavy o.op then Region.ready md ops listed == [i] else Region.free md ops listed i && (Region.ready md ops listed).contains i) && seqOK md ops r (listed.setIfInBounds i true)
/-- The region's ops one after another. -/
def Seq (P : Program) (ops : Array Oper) (Q : Exit → Act → World → Prop) (S : World → Prop) : List Nat → Act → World → Prop
  | [], a, w => Q .normal a w
  | i :: r, a, w => match ops[i]? with
    | none => False
    | some o => if heavy o.op then wpOp P ops Q i (fun a' w' => S w' ∧ Seq P ops Q S r a' w') a w else ∃ v, YieldsIf P ops S o v a ∧ Seq P ops Q S r (a.put o.dst v) w
theorem wpAnyH_seq (hs : Region.noSelect ops = true) (hQ : ∀ c a w d v, Q (.panic c) (Act.put a d v) w → Q (.panic c) a w) : ∀ (l : List Nat) (fuel : Nat) (listed : Array Bool) (a : Act) (w : World),
    l.length ≤ fuel → seqOK .any ops l listed = true → S w → Seq P ops Q S l a w → wpAnyH P .any ops Q S fuel listed a w
  | [], fuel, listed, a, w, _, hck, _, h => wpAnyH_done (by simpa [seqOK] using hck) h fuel
  | i :: r, 0, _, _, _, hl, _, _, _ => by simp at hl
  | i :: r, fuel + 1, listed, a, w, hl, hck, hS, h => by
    unfold seqOK at hck
    unfold Seq at h
    cases ho : ops[i]? with
    | none => simp [ho] at hck
    | some o =>
      simp only [ho, Bool.and_eq_true] at hck h
      by_cases hh : heavy o.op = true
      · rw [if_pos hh] at hck h
        have hr : Region.ready .any ops listed = [i] := by simpa using hck.1
        refine wpAnyH_all hr (by simp) ?_
        intro j hj
        obtain rfl : j = i := by simpa using hj
        exact wpOp_mono (fun a' w' h' => ⟨h'.1, wpAnyH_seq hs hQ r fuel _ a' w' (by simpa using hl) hck.2 h'.1 h'.2⟩) h
      · rw [if_neg hh] at hck h
        simp only [Bool.and_eq_true] at hck
        obtain ⟨v, hy, h⟩ := h
        exact wpAnyH_take ho hs hck.1.1 hck.1.2 (fun c a w h => hQ c a w _ _ h) hy hS (wpAnyH_seq hs hQ r fuel _ _ w (by simpa using hl) hck.2 hS h)
/-- A region that draws, in the order handed in. -/
theorem seq {id : Nat} {a : Act} {w : World} (S : World → Prop) (l : List Nat) (hm : P.follows .mixedOrders = true) (hs : Region.noSelect ops = true)
    (hck : seqOK .any ops l (Array.replicate ops.size false) = true) (hl : l.length ≤ ops.size) (hQ : ∀ c a w t v, Q (.panic c) (Act.put a (some t) v) w → Q (.panic c) a w)
    (hS : S w.drew) (h : Seq P ops Q S l a w.drew) : (Code.region id ops true).wp P Q a w :=
  wp_region_held hm (wpAnyH_seq hs (fun c a w d v h => by cases d with | none => exact h | some t => exact hQ c a w t v h) l _ _ a _ hl hck hS h)
theorem seq_nil {a : Act} {w : World} (h : Q .normal a w) : Seq P ops Q S [] a w := h
/-- What only reads. -/
theorem seq_take {i : Nat} {r : List Nat} {o : Oper} {a : Act} {w : World} {v : Value} (ho : ops[i]? = some o) (hh : heavy o.op = false)
    (hw : Region.wanted o (yielded ops a.tmps) = true) (hv : ∀ W, S W → (execOp a.eval o).run P W = .ok (.value v) W)
    (h : Seq P ops Q S r (a.put o.dst v) w) : Seq P ops Q S (i :: r) a w := by
  unfold Seq
  simp only [ho, hh]
  exact ⟨v, .inl ⟨hw, hv⟩, h⟩
theorem seq_skip {i : Nat} {r : List Nat} {o : Oper} {a : Act} {w : World} (ho : ops[i]? = some o) (hh : heavy o.op = false)
    (hw : Region.wanted o (yielded ops a.tmps) = false)
    (h : Seq P ops Q S r (a.put o.dst undef) w) : Seq P ops Q S (i :: r) a w := by
  unfold Seq
  simp only [ho, hh]
  exact ⟨undef, .inr ⟨hw, rfl⟩, h⟩
/-- What comes up alone. -/
theorem seq_do {i : Nat} {r : List Nat} {o : Oper} {a : Act} {w : World} (ho : ops[i]? = some o) (hh : heavy o.op = true)
    (hw : Region.wanted o (yielded ops a.tmps) = true) (h : o.wp P a w (fun a' w' => S w' ∧ Seq P ops Q S r a' w') Q) : Seq P ops Q S (i :: r) a w := by
  unfold Seq
  simp only [ho, hh, if_true]
  unfold wpOp
  simp only [ho, hw, if_true]
  exact .inl h
theorem seq_not {i : Nat} {r : List Nat} {o : Oper} {a : Act} {w : World} (ho : ops[i]? = some o) (hh : heavy o.op = true)
    (hw : Region.wanted o (yielded ops a.tmps) = false) (hS : S w) (h : Seq P ops Q S r (a.put o.dst undef) w) : Seq P ops Q S (i :: r) a w := by
  unfold Seq
  simp only [ho, hh, if_true]
  unfold wpOp
  simp only [ho, hw]
  exact ⟨hS, h⟩
/-- A variable's whole content, read. -/
theorem seq_load {i : Nat} {r : List Nat} {o : Oper} {a : Act} {w : World} (ho : ops[i]? = some o) (ty : TypeId) (x : Operand) (hop : o.op = .load ty x)
    (hw : Region.wanted o (yielded ops a.tmps) = true)
    {g : Nat} {t : TypeId} {cs : Array Value} {d : TypeDesc} (hx : a.eval x = .pointer (some ⟨g, 0, none⟩)) (hB : ∀ W, S W → Blk W g t cs)
    (hu : P.underlying ty = some d) (hd : (match d with | .struct _ | .array _ _ => true | _ => false) = true) (hi : (P.info? ty).map (·.size) = some cs.size)
    (h : Seq P ops Q S r (a.put o.dst (.agg cs)) w) : Seq P ops Q S (i :: r) a w := by
  refine seq_take ho (by rw [hop]; rfl) hw (fun W hW => ?_) h
  unfold execOp
  simp only [hop, hx, Instr.loadAt, Instr.sureAddr, Sem.run_bind, Sem.run_pure, Result.andThen_ok, run_loadVar_row W g t ty cs (0, 0) d (hB W hW).out hu hd hi]
/-- Two byte arrays compared. -/
theorem seq_eq {i : Nat} {r : List Nat} {o : Oper} {a : Act} {w : World} (ho : ops[i]? = some o) (op : BinOp) (hop : op = .eql ∨ op = .neq) (t : TypeId) (x y : Operand) (yt : TypeId) (hop' : o.op = .binOp op t x y yt)
    (hw : Region.wanted o (yielded ops a.tmps) = true)
    {e : TypeId} {n : Nat} {i' : TypeInfo} (hu : P.underlying t = some (.array n e)) (hi : P.info? e = some i') (hc : P.cellsOf e = 1) (he : P.underlying e = some (.int .u8)) (hm : P.eqGuardType P.depth t = false)
    {l m : List UInt8} (hx : a.eval x = .agg (BV l).toArray) (hy : a.eval y = .agg (BV m).toArray) (hl : l.length = n) (hml : m.length = n) (b : Bool) (hr : b = if op = .eql then decide (l = m) else !decide (l = m))
    (h : Seq P ops Q S r (a.put o.dst (.bool b)) w) : Seq P ops Q S (i :: r) a w := by
  refine seq_take ho (by rw [hop']; rfl) hw (fun W hW => ?_) h
  have hq := run_eq_bytes (P := P) W 9998 hu hi hc he l m hl hml
  have hg := run_eqGuard_agg (P := P) W op t x y (BV l).toArray (BV m).toArray hm
  unfold execOp
  rcases hop with rfl | rfl
  · simp only [hop', hx, hy, Sem.run_bind, hg, Result.andThen_ok, run_eql_struct, hq, Sem.run_pure]
    simp at hr; subst hr; rfl
  · simp only [hop', hx, hy, Sem.run_bind, hg, Result.andThen_ok, run_neq_struct, hq, Sem.run_pure]
    simp at hr; subst hr; rfl
/-- Is the next op this one? -/
theorem fit {w : World} {rest : List Oper} {a : Act} {d : Option Tmp} {t : TypeId} {p : String} {af : Array Edge} {g : Option (Nat × Bool)} (op : Op) (h : wpList P ops Q ({ dst := d, op := op, type := t, pos := p, after := af, guard := g } :: rest) a w) :
    wpList P ops Q ({ dst := d, op := op, type := t, pos := p, after := af, guard := g } :: rest) a w := h
/-- Here the walk stands. -/
structure Stop (p : Prop) : Prop where
  out : p
theorem stop {p : Prop} (h : Stop p) : p := h.out
/-- A variable that was just made, written whole. -/
theorem wpl_fresh {w : World} {rest : List Oper} {o : Oper} {a : Act} (hgd : o.guard = none) (ty : TypeId) (x y : Operand) (ho : o.op = .store ty x y)
    {z cs' : Array Value} (hx : a.eval x = .pointer (some ⟨w.heap.size, 0, none⟩)) (hy : a.eval y = .agg cs')
    (hi : (P.info? ty).map (·.size) = some cs'.size) (hz : z.size = cs'.size) (h1 : cs'.all (·.oneCell') = true)
    (h : ∀ w', Ext w w' → Blk w' w.heap.size ty cs' → w'.heap.size = w.heap.size + 1 → wpList P ops Q rest (a.put o.dst undef) w') : wpList P ops Q (o :: rest) a (w.alloc (.cells z ty)) := by
  refine wpl_store hgd ty x y ho hx hy (Blk.new _ _ _) hi hz h1 ?_
  intro w' _ hB hb' _ hs
  exact h w' (Below.trans (Ext.rfl'.al _) (hb'.mono (by simp))) hB (by rw [hs]; simp)
/-- What one result is worth. -/
def RV (P : Program) (tmps : Array Value) (w : World) (r : ResultVar) (v : Value) : Prop :=
  (match r with
    | .tmp t => pure (tmps.getD t undef)
    | .cell a t => do loadVar t (← asAddr (tmps.getD a undef)) : Sem Value).run P w = .ok v w
theorem RV.tmp {tmps : Array Value} {w : World} {t : Tmp} {v : Value} (h : tmps.getD t undef = v) : RV P tmps w (.tmp t) v := by
  unfold RV; simp only [h]; rfl
theorem RV.cell {tmps : Array Value} {w : World} {p : Tmp} {ty : TypeId} {g : Nat} {t : TypeId} {cs : Array Value} {d : TypeDesc}
    (hp : tmps.getD p undef = .pointer (some ⟨g, 0, none⟩)) (B : Blk w g t cs)
    (hu : P.underlying ty = some d) (hd : (match d with | .struct _ | .array _ _ => true | _ => false) = true) (hi : (P.info? ty).map (·.size) = some cs.size) : RV P tmps w (.cell p ty) (.agg cs) := by
  unfold RV
  have hp' : tmps[p]?.getD undef = .pointer (some ⟨g, 0, none⟩) := by simpa using hp
  simp [hp', asAddr, run_loadVar_row w g t ty cs (0, 0) d B.out hu hd hi]
theorem _root_.Go.Result.andThen_assoc {α β γ : Type} (r : Result α) (f : α → World → Result β) (g : β → World → Result γ) : (r.andThen f).andThen g = r.andThen fun a w => (f a w).andThen g := by cases r <;> rfl
theorem RV.under {tmps : Array Value} {w : World} {p : Tmp} {ty : TypeId} {v : Value} (h : RV P tmps w (.cell p ty) v) (K : Value → World → Result Value) :
    ((asAddr (tmps[p]?.getD undef)).run P w).andThen (fun x w1 => ((loadVar ty x).run P w1).andThen K) = K v w := by
  unfold RV at h
  simp at h
  rw [← Result.andThen_assoc, h]; rfl
theorem RV.tmpv {tmps : Array Value} {w : World} {p : Tmp} {v : Value} (h : RV P tmps w (.tmp p) v) : tmps[p]?.getD undef = v := by
  unfold RV at h; simpa using h
theorem ret2 {fn : Func} {R : Ending → World → Prop} {a : Act} {w : World} {r1 r2 : ResultVar} (h : fn.results = #[r1, r2]) {v1 v2 : Value} (h1 : RV P a.tmps w r1 v1) (h2 : RV P a.tmps w r2 v2)
    (hd : a.defers = []) (hR : R (.returned (.tuple #[v1, v2])) w) : bodyPost P fn R .ret a w := by
  refine bodyPost_ret (v := .tuple #[v1, v2]) ?_ hd hR
  unfold results
  simp only [h, Array.mapM_eq_mapM_toList, List.mapM_cons, List.mapM_nil]
  cases r1 <;> cases r2 <;> ((first | have u1 := RV.tmpv h1 | have u1 := RV.under h1); (first | have u2 := RV.tmpv h2 | have u2 := RV.under h2); simp [u1, u2])
theorem ret3 {fn : Func} {R : Ending → World → Prop} {a : Act} {w : World} {r1 r2 r3 : ResultVar} (h : fn.results = #[r1, r2, r3]) {v1 v2 v3 : Value} (h1 : RV P a.tmps w r1 v1) (h2 : RV P a.tmps w r2 v2) (h3 : RV P a.tmps w r3 v3)
    (hd : a.defers = []) (hR : R (.returned (.tuple #[v1, v2, v3])) w) : bodyPost P fn R .ret a w := by
  refine bodyPost_ret (v := .tuple #[v1, v2, v3]) ?_ hd hR
  unfold results
  simp only [h, Array.mapM_eq_mapM_toList, List.mapM_cons, List.mapM_nil]
  cases r1 <;> cases r2 <;> cases r3 <;> ((first | have u1 := RV.tmpv h1 | have u1 := RV.under h1); (first | have u2 := RV.tmpv h2 | have u2 := RV.under h2); (first | have u3 := RV.tmpv h3 | have u3 := RV.under h3); simp [u1, u2, u3])
end
end Go.Proofs.Ytnggcldghpmeaaa
