/- Words for memory: a slice that reads as a list of cells (nil, empty or not), a block known whole, a row of the call's own; and the laws of append, copy, load and store in these words. Plain theorems over any program. -/
import Derived.WalkKit
import Derived.WalkLawsBesides
import Derived.WalkSpells
import Derived.Maps.AppendAt
import Derived.Deep.AppendLies
import Derived.Deep.Draws
import Derived.Deep.MidRow
import Derived.Laws.CopyOwn
set_option linter.unusedVariables false
set_option linter.unusedSimpArgs false
namespace Go.Proofs.Ytnggcldghpmeaaa
open Go.RowKit
theorem hid {p : Prop} (h : p) : Hid p := h

/-- All that was there is as it was. -/
abbrev Ext (w w' : World) : Prop := Below w.heap.size w w'
theorem Ext.rfl' {w : World} : Ext w w := Below.refl _ _
theorem Ext.tr {a b c : World} (h : Ext a b) (k : Ext b c) : Ext a c := h.trans (k.mono h.size)
theorem Ext.al {a b : World} (h : Ext a b) (o : Obj) : Ext a (b.alloc o) := h.alloc h.size o
theorem Ext.dr {a b : World} (h : Ext a b) (n : Nat) : Ext a (b.drewN n) := ⟨h.os, h.tape, h.output, h.size, h.block⟩
theorem Ext.dr1 {a b : World} (h : Ext a b) : Ext a b.drew := ⟨h.os, h.tape, h.output, h.size, h.block⟩
theorem Ext.cells {a b : World} (h : Ext a b) {p : Addr} {v : Value} (hc : a.cell? p = some v) : b.cell? p = some v := (h.cell (World.block_lt_of_cell? a p hc)).trans hc
theorem below_dr {B : Nat} {a b : World} (h : Below B a b) (n : Nat) : Below B a (b.drewN n) := ⟨h.os, h.tape, h.output, h.size, h.block⟩
theorem below_then {B : Nat} {a b c : World} (h : Below B a b) (hB : B ≤ b.heap.size) (k : Ext b c) : Below B a c := h.trans (k.mono hB)

/-! ### A slice that reads as a list of cells -/
structure Rd (w : World) (A : Option Addr) (xs : List Value) : Prop where mk ::
  (out : 0 < xs.length → ∃ ad, A = some ad ∧ ∀ j u, xs[j]? = some u → w.cell? (ad.add j) = some u)
theorem Rd.nil {w : World} {A : Option Addr} : Rd w A [] := ⟨fun h => absurd h (by simp)⟩
theorem Rd.keep {w w' : World} {A : Option Addr} {xs : List Value} (h : Rd w A xs) (hk : ∀ p v, w.cell? p = some v → w'.cell? p = some v) : Rd w' A xs :=
  ⟨fun h0 => let ⟨ad, e, hc⟩ := h.out h0; ⟨ad, e, fun j u hu => hk _ _ (hc j u hu)⟩⟩
theorem Rd.ext {w w' : World} {A : Option Addr} {xs : List Value} (h : Rd w A xs) (e : Ext w w') : Rd w' A xs := h.keep fun _ _ hc => e.cells hc
theorem Rd.al {w : World} {A : Option Addr} {xs : List Value} (h : Rd w A xs) (o : Obj) : Rd (w.alloc o) A xs := h.ext (Ext.rfl'.al o)
theorem Rd.dr {w : World} {A : Option Addr} {xs : List Value} (h : Rd w A xs) (n : Nat) : Rd (w.drewN n) A xs := ⟨h.out⟩
theorem Rd.dr1 {w : World} {A : Option Addr} {xs : List Value} (h : Rd w A xs) : Rd w.drew A xs := ⟨h.out⟩
theorem Rd.at_ {w : World} {A : Option Addr} {xs : List Value} (h : Rd w A xs) (k : Nat) (hk : k < xs.length) : ∃ ad, A = some ad ∧ w.cell? (ad.add k) = some xs[k] := by
  obtain ⟨ad, e, hc⟩ := h.out (by omega)
  exact ⟨ad, e, hc k _ (List.getElem?_eq_getElem hk)⟩
theorem block_of_add (a : Addr) (n : Nat) : (a.add n).block = a.block := by unfold Addr.add; split <;> rfl
theorem add_of_add (a : Addr) (i j : Nat) : (a.add i).add j = a.add (i + j) := by
  unfold Addr.add
  by_cases hi : i = 0 <;> by_cases hj : j = 0 <;> simp [hi, hj, Nat.add_assoc]
theorem add_mid (b o j : Nat) : (⟨b, o, none⟩ : Addr).add j = ⟨b, o + j, none⟩ := Addr.add_mid b o j
theorem Rd.drop {w : World} {A : Option Addr} {xs : List Value} (h : Rd w A xs) (k : Nat) (c : Prop) [Decidable c] (hc : c → xs.length ≤ k) : Rd w (if c then A else A.map (·.add k)) (xs.drop k) := by
  refine ⟨fun h0 => ?_⟩
  have hl : k < xs.length := by simp at h0; omega
  obtain ⟨ad, rfl, hcell⟩ := h.out (by omega)
  rw [if_neg (fun hh => by have := hc hh; omega)]
  refine ⟨ad.add k, rfl, fun j u hu => ?_⟩
  rw [add_of_add]
  exact hcell _ u (by rw [← hu, List.getElem?_drop])
theorem Rd.take {w : World} {A : Option Addr} {xs : List Value} (h : Rd w A xs) (k : Nat) : Rd w A (xs.take k) := by
  refine ⟨fun h0 => ?_⟩
  obtain ⟨ad, rfl, hcell⟩ := h.out (by simp at h0; omega)
  refine ⟨ad, rfl, fun j u hu => hcell j u ?_⟩
  rw [List.getElem?_take] at hu
  split at hu
  · exact hu
  · cases hu
theorem Rd.left {w : World} {A : Option Addr} {xs ys : List Value} (h : Rd w A (xs ++ ys)) : Rd w A xs := by
  have := h.take xs.length
  rwa [List.take_left] at this
theorem Rd.of_cells {w : World} {ad : Addr} {xs : List Value} (h : ∀ j u, xs[j]? = some u → w.cell? (ad.add j) = some u) : Rd w (some ad) xs := ⟨fun _ => ⟨ad, rfl, h⟩⟩

/-! ### A block that is known whole -/
structure Blk (w : World) (g : Nat) (t : TypeId) (cs : Array Value) : Prop where mk ::
  (out : w.heap[g]? = some (.cells cs t (0, 0)))
theorem Blk.lt {w : World} {g : Nat} {t : TypeId} {cs : Array Value} (h : Blk w g t cs) : g < w.heap.size := by
  rcases Nat.lt_or_ge g w.heap.size with hlt | hge
  · exact hlt
  · have := h.out; rw [Array.getElem?_eq_none hge] at this; cases this
theorem Blk.new (w : World) (t : TypeId) (cs : Array Value) : Blk (w.alloc (.cells cs t)) w.heap.size t cs := ⟨heap_alloc_new w _⟩
theorem Blk.ext {w w' : World} {g : Nat} {t : TypeId} {cs : Array Value} (h : Blk w g t cs) (e : Ext w w') : Blk w' g t cs := ⟨(e.block g h.lt).trans h.out⟩
theorem Blk.below {B : Nat} {w w' : World} {g : Nat} {t : TypeId} {cs : Array Value} (h : Blk w g t cs) (e : Below B w w') (hg : g < B) : Blk w' g t cs := ⟨(e.block g hg).trans h.out⟩
theorem Blk.grown {w w' : World} {g : Nat} {t : TypeId} {cs : Array Value} {row : Option Nat} (h : Blk w g t cs) (e : w.grownBy w' row) (hg : some g ≠ row) : Blk w' g t cs := ⟨(e.block g h.lt hg).trans h.out⟩
theorem Blk.al {w : World} {g : Nat} {t : TypeId} {cs : Array Value} (h : Blk w g t cs) (o : Obj) : Blk (w.alloc o) g t cs := h.ext (Ext.rfl'.al o)
theorem Blk.dr {w : World} {g : Nat} {t : TypeId} {cs : Array Value} (h : Blk w g t cs) (n : Nat) : Blk (w.drewN n) g t cs := ⟨h.out⟩
theorem Blk.dr1 {w : World} {g : Nat} {t : TypeId} {cs : Array Value} (h : Blk w g t cs) : Blk w.drew g t cs := ⟨h.out⟩
theorem Blk.cell {w : World} {g : Nat} {t : TypeId} {cs : Array Value} (h : Blk w g t cs) (i : Nat) : w.cell? ⟨g, i, none⟩ = cs[i]? := cell_of_row w g i cs t (0, 0) h.out
theorem Blk.frozen {w : World} {g : Nat} {t : TypeId} {cs : Array Value} (h : Blk w g t cs) (i : Nat) : w.frozen? ⟨g, i, none⟩ = false := by
  simp [World.frozen?, h.out]
theorem Blk.set_ {w : World} {g : Nat} {t : TypeId} {cs : Array Value} (h : Blk w g t cs) (i : Nat) (u : Value) : Blk (w.setCell ⟨g, i, none⟩ u) g t (cs.setIfInBounds i u) := by
  have := h.out
  exact ⟨by simp [World.setCell, Array.getElem?_modify, this]⟩
theorem Blk.far {w : World} {g : Nat} {t : TypeId} {cs : Array Value} (h : Blk w g t cs) {p : Addr} (hp : g ≠ p.block) (u : Value) : Blk (w.setCell p u) g t cs := ⟨(Below.heap_setCell w p u g hp).trans h.out⟩
theorem Blk.row_same {w : World} {g : Nat} {t : TypeId} {cs : Array Value} (h : Blk w g t cs) (ds : Array Value) : Blk (w.setRow g ds) g t ds := ⟨setRow_heap w g cs ds t _ h.out⟩
theorem Blk.row_far {w : World} {g g' : Nat} {t : TypeId} {cs : Array Value} (h : Blk w g t cs) (ds : Array Value) (hne : g ≠ g') : Blk (w.setRow g' ds) g t cs := ⟨(setRow_other w g' g ds hne).trans h.out⟩
theorem Blk.rd {w : World} {g : Nat} {t : TypeId} {cs : Array Value} (h : Blk w g t cs) (o : Nat) : Rd w (some ⟨g, o, none⟩) (cs.toList.drop o) :=
  .of_cells fun j u hu => by rw [add_mid, h.cell]; simpa using hu
/-- A new block of any world that ends in it: the number and the cells by equations. -/
theorem Rd.new {w : World} {cs : Array Value} {t : TypeId} {b : Nat} {xs : List Value} (hb : b = w.heap.size) (hx : xs = cs.toList) : Rd (w.alloc (.cells cs t)) (some ⟨b, 0, none⟩) xs := by
  subst hb hx
  have := (Blk.new w t cs).rd 0
  simpa using this
theorem Blk.new_ {w : World} {cs : Array Value} {t : TypeId} {b : Nat} (hb : b = w.heap.size) : Blk (w.alloc (.cells cs t)) b t cs := by
  subst hb
  exact Blk.new w t cs
theorem below_row {B g : Nat} {a w : World} (h : Below B a w) (hg : B ≤ g) (ds : Array Value) : Below B a (w.setRow g ds) := below_setRow h hg ds

/-! ### A row of the call's own -/
structure Own (w : World) (B : Nat) (e : TypeId) (size : Nat) (A : Option Addr) (n c : Nat) (xs : List Value) : Prop where mk ::
  (out : w.ownsRow B e size (.slice A n c) n xs)
section
variable {w w' : World} {B : Nat} {e : TypeId} {size : Nat} {A : Option Addr} {n c : Nat} {xs : List Value}
theorem Own.len (h : Own w B e size A n c xs) : xs.length = n * size := h.out.1
theorem Own.nil : Own w B e size none 0 0 [] := ⟨World.ownsRow_nil _ _ _ _⟩
theorem Own.le (h : Own w B e size A n c xs) : n ≤ c := by
  rcases h.out.2 with ⟨h1, h2⟩ | ⟨g, cap, cur, hv, _, _, h3, _⟩
  · omega
  · injection hv with _ _ hc; omega
theorem Own.max (h : Own w B e size A n c xs) : c ≤ maxLen := by
  rcases h.out.2 with ⟨h1, h2⟩ | ⟨g, cap, cur, hv, _, _, h3, h4, _⟩
  · injection h1 with _ _ hc; subst hc; exact Nat.zero_le _
  · injection hv with _ _ hc; omega
theorem Own.rd (h : Own w B e size A n c xs) : Rd w A xs := by
  refine ⟨fun h0 => ?_⟩
  have hn : 0 < n := by
    rcases Nat.eq_zero_or_pos n with hz | hp
    · have := h.len; rw [hz] at this; omega
    · exact hp
  obtain ⟨g, cap, hv, _, _⟩ := h.out.form hn
  injection hv with hA
  subst hA
  exact ⟨_, rfl, h.out.cells (g := g) rfl⟩
theorem Own.block (h : Own w B e size A n c xs) : ∀ k, (Value.slice A n c).ownBlock = some k → B ≤ k ∧ k < w.heap.size := h.out.lt
theorem Own.kept (h : Own w B e size A n c xs) {row : Option Nat} (g : w.grownBy w' row) (hr : ∀ k, B ≤ k → some k ≠ row) : Own w' B e size A n c xs := by
  refine ⟨h.out.kept g ?_⟩
  cases hb : (Value.slice A n c).ownBlock with
  | none => exact .inl rfl
  | some k => exact .inr (hr k (h.block k hb).1)
theorem Own.ext (h : Own w B e size A n c xs) (k : Ext w w') : Own w' B e size A n c xs :=
  ⟨h.out.kept (row := none) ⟨k.os, k.tape, k.output, k.size, fun i hi _ => k.block i hi⟩ (by cases (Value.slice A n c).ownBlock <;> simp)⟩
theorem Own.al (h : Own w B e size A n c xs) (o : Obj) : Own (w.alloc o) B e size A n c xs := h.ext (Ext.rfl'.al o)
theorem Own.dr (h : Own w B e size A n c xs) (k : Nat) : Own (w.drewN k) B e size A n c xs := ⟨h.out⟩
theorem Own.dr1 (h : Own w B e size A n c xs) : Own w.drew B e size A n c xs := ⟨h.out⟩
theorem Own.set_ (h : Own w B e size A n c xs) {p : Addr} (hp : p.block < B) (u : Value) : Own (w.setCell p u) B e size A n c xs := ⟨ownsRow_setCell_below h.out hp u⟩
theorem Own.low {B' : Nat} (h : Own w B e size A n c xs) (hB : B' ≤ B) : Own w B' e size A n c xs := by
  refine ⟨h.out.1, ?_⟩
  rcases h.out.2 with h1 | ⟨g, cap, cur, hv, hb, r⟩
  · exact .inl h1
  · exact .inr ⟨g, cap, cur, hv, Nat.le_trans hB hb, r⟩
theorem Own.new (w : World) (e : TypeId) (cs : Array Value) (n size B : Nat) (hB : B ≤ w.heap.size) (hm : n ≤ maxLen) (hs : cs.size = n * size) : Own (w.alloc (.cells cs e)) B e size (some ⟨w.heap.size, 0, none⟩) n n cs.toList :=
  ⟨World.ownsRow_lit w cs n hB hm hs⟩
end

/-! ### append -/
section
variable {P : Program}
theorem run_append_nil' (w : World) (B : Nat) (t ty e : TypeId) (i : TypeInfo) (size : Nat) (ht : P.underlying t = some (.slice e)) (hi : P.info? e = some i)
    (v : Value) (n : Nat) (xs : List Value) (hown : w.ownsRow B e size v n xs) (c : Nat) : (Builtin.append_ #[t, t] ty #[v, .slice none 0 c]).run P w = .ok v w := by
  rcases hown.2 with ⟨rfl, rfl⟩ | ⟨g, cap, cur, rfl, _, _, hnc, _⟩
  · simp [Builtin.append_, run_underlying ht, sizeOf, typeInfo, hi, Builtin.lenOf, Builtin.firstCells]
  · simp [Builtin.append_, run_underlying ht, sizeOf, typeInfo, hi, Builtin.lenOf, Builtin.firstCells, hnc, storeCells]

/-- append(v, xs...), v a row of the call's own, xs whatever reads: nil, empty or not. -/
theorem run_app {w : World} {B : Nat} {t ty e : TypeId} {i : TypeInfo} {z : Value} {size bytes : Nat} (ht : P.underlying t = some (.slice e)) (hi : P.info? e = some i) (hz : i.zero = some z)
    (hsize : i.size = size) (hby : i.bytes = bytes) (hzs : z.cells.size = size) (hsz : 0 < size)
    {A : Option Addr} {n c : Nat} {xs : List Value} (hown : Own w B e size A n c xs)
    {A2 : Option Addr} {m c2 : Nat} {ys : List Value} (hl : ys.length = m * size) (hr : Rd w A2 ys) (h1 : ∀ u ∈ ys, u.oneCell' = true)
    (h63 : n + m ≤ maxLen) (hbytes : (n + m) * bytes ≤ 140737488355328) (hB : B ≤ w.heap.size) :
    ∃ A' c' w', (Builtin.append_ #[t, t] ty #[.slice A n c, .slice A2 m c2]).run P w = .ok (.slice A' (n + m) c') w' ∧ Own w' B e size A' (n + m) c' (xs ++ ys) ∧
      w.grownBy w' (Value.slice A n c).ownBlock := by
  rcases Nat.eq_zero_or_pos m with h0 | h0
  · subst h0
    have hy : ys = [] := List.eq_nil_of_length_eq_zero (by simpa using hl)
    subst hy
    rcases A2 with _ | ad
    · exact ⟨A, c, w, run_append_nil' w B t ty e i size ht hi _ n xs hown.out c2, by simpa using hown, World.grownBy.refl w _⟩
    · obtain ⟨v', w', hrun, ho, hg, hat⟩ := run_append_own_at (P := P) w B t ty e i z size bytes ht hi hz hsize hby hzs hsz _ n xs hown.out ad 0 c2 [] hl (by simp) (by simp) h63 hbytes hB
      rcases ho.2 with ⟨rfl, h⟩ | ⟨g, cap, cur, rfl, h⟩
      · refine ⟨none, 0, w', ?_, ?_, hg⟩
        · rw [hrun]; simp at h; subst h; rfl
        · simp at h; subst h; exact ⟨ho⟩
      · exact ⟨_, _, w', hrun, ⟨ho⟩, hg⟩
  · obtain ⟨ad, rfl, hc⟩ := hr.out (by rw [hl]; exact Nat.mul_pos h0 hsz)
    obtain ⟨v', w', hrun, ho, hg, hat⟩ := run_append_own_at (P := P) w B t ty e i z size bytes ht hi hz hsize hby hzs hsz _ n xs hown.out ad m c2 ys hl hc h1 h63 hbytes hB
    obtain ⟨g, cap, rfl, _⟩ := ho.form (by omega)
    exact ⟨_, _, w', hrun, ⟨ho⟩, hg⟩

theorem wpl_app {w : World} {ops : Array Oper} {rest : List Oper} {o : Oper} {a : Act} {Q : Exit → Act → World → Prop} (hgd : o.guard = none) (s x : Operand) (t : TypeId)
    (ho : o.op = .call { callee := .builtin .append, args := #[s, x], argTypes := #[t, t] })
    {B : Nat} {e : TypeId} {i : TypeInfo} {z : Value} {size bytes : Nat} (ht : P.underlying t = some (.slice e)) (hi : P.info? e = some i) (hz : i.zero = some z)
    (hsize : i.size = size) (hby : i.bytes = bytes) (hzs : z.cells.size = size) (hsz : 0 < size)
    {A : Option Addr} {n c : Nat} {xs : List Value} (hs : a.eval s = .slice A n c) (hown : Own w B e size A n c xs)
    {A2 : Option Addr} {m c2 : Nat} {ys : List Value} (hx : a.eval x = .slice A2 m c2) (hl : ys.length = m * size) (hr : Rd w A2 ys) (h1 : ∀ u ∈ ys, u.oneCell' = true)
    (h63 : n + m ≤ maxLen) (hbytes : (n + m) * bytes ≤ 140737488355328) (hB : B ≤ w.heap.size)
    (h : ∀ A' c' w', Own w' B e size A' (n + m) c' (xs ++ ys) → w.grownBy w' (Value.slice A n c).ownBlock → wpList P ops Q rest (a.put o.dst (.slice A' (n + m) c')) w') : wpList P ops Q (o :: rest) a w := by
  obtain ⟨A', c', w', hrun, h2, h3⟩ := run_app (P := P) (ty := o.type) (c2 := c2) ht hi hz hsize hby hzs hsz hown hl hr h1 h63 hbytes hB
  refine wpList_plain hgd fun _ hK => ?_
  unfold Oper.wp execOp
  simp only [ho, resolve, invoke, builtin, Sem.run_bind, Sem.run_pure, Result.andThen_ok, List.map_toArray, List.map_cons, List.map_nil, hs, hx, hrun]
  exact hK _ _ (h A' c' w' h2 h3)
/-- A whole variable read. -/
theorem wpl_load {w : World} {ops : Array Oper} {rest : List Oper} {o : Oper} {a : Act} {Q : Exit → Act → World → Prop} (hgd : o.guard = none) (ty : TypeId) (x : Operand) (ho : o.op = .load ty x)
    {g : Nat} {t : TypeId} {cs : Array Value} {d : TypeDesc} (hx : a.eval x = .pointer (some ⟨g, 0, none⟩)) (B : Blk w g t cs)
    (hu : P.underlying ty = some d) (hd : (match d with | .struct _ | .array _ _ => true | _ => false) = true) (hi : (P.info? ty).map (·.size) = some cs.size)
    (h : wpList P ops Q rest (a.put o.dst (.agg cs)) w) : wpList P ops Q (o :: rest) a w :=
  wpList_load_row hgd ty x ho g hx t cs (0, 0) d B.out hu hd hi h

/-- A whole variable written: only its block has turned. -/
theorem wpl_store {w : World} {ops : Array Oper} {rest : List Oper} {o : Oper} {a : Act} {Q : Exit → Act → World → Prop} (hgd : o.guard = none) (ty : TypeId) (x y : Operand) (ho : o.op = .store ty x y)
    {g : Nat} {t : TypeId} {cs cs' : Array Value} (hx : a.eval x = .pointer (some ⟨g, 0, none⟩)) (hy : a.eval y = .agg cs') (B : Blk w g t cs)
    (hi : (P.info? ty).map (·.size) = some cs'.size) (hs : cs.size = cs'.size) (h1 : cs'.all (·.oneCell') = true)
    (h : ∀ w', Hid (w' = w.setRow g cs') → Blk w' g t cs' → Below g w w' → (∀ g' t' ds, g' ≠ g → Blk w g' t' ds → Blk w' g' t' ds) → w'.heap.size = w.heap.size → wpList P ops Q rest (a.put o.dst undef) w') : wpList P ops Q (o :: rest) a w := by
  have hrun := run_storeVar_row (P := P) w g t ty cs cs' B.out hi hs h1
  refine wpList_plain hgd fun _ hK => ?_
  unfold Oper.wp execOp
  simp only [ho, hx, hy, Instr.storeAt, Instr.sureAddr, Sem.run_bind, Sem.run_pure, Result.andThen_ok, hrun]
  exact hK _ _ (h _ (show _ = _ from rfl) (B.row_same cs') (below_row (Below.refl _ _) (Nat.le_refl _) cs') (fun g' t' ds hne hb => hb.row_far cs' hne) (by simp [World.setRow]))

/-- A result that is a variable's whole content. -/
theorem ret_cell {fn : Func} {R : Ending → World → Prop} {a : Act} {w : World} {p : Tmp} {ty : TypeId} (h : fn.results = #[.cell p ty]) {g : Nat} {t : TypeId} {cs : Array Value} {d : TypeDesc}
    (hp : a.tmps.getD p undef = .pointer (some ⟨g, 0, none⟩)) (B : Blk w g t cs)
    (hu : P.underlying ty = some d) (hdd : (match d with | .struct _ | .array _ _ => true | _ => false) = true) (hi : (P.info? ty).map (·.size) = some cs.size)
    (hd : a.defers = []) (hR : R (.returned (.agg cs)) w) : bodyPost P fn R .ret a w :=
  bodyPost_ret (results_cell_row h _ w g t cs (0, 0) d hp B.out hu hdd hi) hd hR
/-- An operation of a plain region, by its own law. -/
theorem wpl_do {w : World} {ops : Array Oper} {rest : List Oper} {o : Oper} {a : Act} {Q : Exit → Act → World → Prop} (hw : Region.wanted o (yielded ops a.tmps) = true)
    (h : o.wp P a w (wpList P ops Q rest) Q) : wpList P ops Q (o :: rest) a w := by
  unfold wpList
  rw [if_pos hw]
  exact .inl h
/-- An operation of a region that draws, by its own law. -/
theorem step_do {w : World} {ops : Array Oper} {o : Oper} {a : Act} {K : Act → World → Prop} {Q : Exit → Act → World → Prop} {E : Prop} (hw : Region.wanted o (yielded ops a.tmps) = true)
    (h : o.wp P a w K Q) : if Region.wanted o (yielded ops a.tmps) = true then o.wp P a w K Q else E := by
  rw [if_pos hw]
  exact h
theorem wp_load {w : World} {o : Oper} {a : Act} {K : Act → World → Prop} {Q : Exit → Act → World → Prop} (ty : TypeId) (x : Operand) (ho : o.op = .load ty x)
    {g : Nat} {t : TypeId} {cs : Array Value} {d : TypeDesc} (hx : a.eval x = .pointer (some ⟨g, 0, none⟩)) (B : Blk w g t cs)
    (hu : P.underlying ty = some d) (hd : (match d with | .struct _ | .array _ _ => true | _ => false) = true) (hi : (P.info? ty).map (·.size) = some cs.size)
    (h : K (a.put o.dst (.agg cs)) w) : o.wp P a w K Q :=
  wp_load_row ty x ho g hx t cs (0, 0) d B.out hu hd hi h
/-- From here on the world is a letter, of which just F is known. -/
theorem abs_w {c : Code} {Q : Exit → Act → World → Prop} {a : Act} {w : World} (F : World → Prop) (h : ∀ W, F W → c.wp P Q a W) (hF : F w) : c.wp P Q a w := h w hF
end
end Go.Proofs.Ytnggcldghpmeaaa
