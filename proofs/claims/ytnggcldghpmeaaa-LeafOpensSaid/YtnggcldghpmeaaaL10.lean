/- The package leaf: the node of a page, walked. -/
import Derived.Test.YtnggcldghpmeaaaL9
set_option linter.unusedVariables false
set_option linter.unusedSimpArgs false
set_option maxRecDepth 100000
namespace Go.Proofs.Ytnggcldghpmeaaa
open Go.RowKit
attribute [local irreducible] Calls
/-- What a page's bytes seem to say. -/
def kN (p : List UInt8) : Int := (leN (p.take 1) : Int)
def bN (p : List UInt8) : List UInt8 := if kN p = 1 then (p.drop 1).take 16 else List.replicate 16 0
def eN (p : List UInt8) : List (Int × Int) := if kN p = 1 then [] else ents (min (leN ((p.drop 1).take 1)) 6) (p.drop 2)
theorem bN_length {p : List UInt8} (hp : p.length = 256) : (bN p).length = 16 := by unfold bN; split <;> simp [hp]
theorem eN_length (p : List UInt8) : (eN p).length ≤ 6 := by
  unfold eN
  split
  · simp
  · rw [ents_length]; omega
theorem read_calls {w : World} {g : Nat} (p : List UInt8) (hp : p.length = 256) (R : RdAt w g p false) :
    Calls Try.prog 91 #[.pointer (some ⟨g, 0, none⟩)] w fun e w' => ∃ A c, e = .returned (.agg (NV (kN p) (bN p) A (eN p).length c)) ∧ Rd w' A (EV (eN p)) ∧ (∀ ad, A = some ad → w.heap.size ≤ ad.block) ∧ w.grownBy w' (some g) := by
  by_cases hk : kN p = 1
  · have h1 : leN (p.take 1) = 1 := by unfold kN at hk; omega
    refine (read_one p R (by omega) (by omega) h1).mono ?_
    rintro e w' ⟨rfl, hg⟩
    have e1 : eN p = [] := by simp [eN, hk]
    refine ⟨none, 0, ?_, ?_⟩
    · rw [e1, hk]
      simp [bN, hk]
    · rw [e1]; exact ⟨Rd.nil, fun ad ha => (by cases ha), hg⟩
  · refine (read_ents p R (by omega) (by omega) (kN p) rfl hk _ rfl).mono ?_
    rintro e w' ⟨A, c, rfl, hr, ha, hg⟩
    have e1 : eN p = ents (min (leN ((p.drop 1).take 1)) 6) (p.drop 2) := by simp [eN, hk]
    refine ⟨A, c, ?_, by rw [e1]; exact hr, ha, hg⟩
    rw [e1, ents_length]
    simp [bN, hk]
set_option maxHeartbeats 4000000 in
theorem open_aux1 {w : World} (p pg : List UInt8) (k : Int) (b : List UInt8) (l : List (Int × Int)) (m : Nat) (hp : p.length = 256) (hpg : pg.length = 256) (hb : b.length = 16) (hm : m = l.length) (hl : l.length ≤ 6)
    (RD : ∀ W g, RdAt W g p false → Hid (Calls Try.prog 91 #[.pointer (some ⟨g, 0, none⟩)] W fun e w' => ∃ A c, e = .returned (.agg (NV k b A m c)) ∧ Rd w' A (EV l) ∧ (∀ ad, A = some ad → W.heap.size ≤ ad.block) ∧ W.grownBy w' (some g)))
    (PG : ∀ W A c, Rd W A (EV l) → Hid (Calls Try.prog 35 #[.agg (NV k b A m c)] W fun e w' => e = .returned (.tuple #[.agg (BV pg).toArray, .int .i64 81]) ∧ Ext W w')) :
    Calls Try.prog 36 #[.agg (BV p).toArray] w fun e w' => ∃ A c, e = .returned (.tuple #[.agg (NV 0 (List.replicate 16 0) A 0 c), .int .i64 81]) ∧ Rd w' A (EV []) ∧ Ext w w' := by
  have HP := hid hp
  have HPG := hid hpg
  have HSp := hid (BV_size sz28 hp)
  have HSg := hid (BV_size sz28 hpg)
  have HZg : Hid (Try.zeroCells28.size = (BV pg).toArray.size) := hid (by rw [z28]; exact BV_sizes (by rw [hpg]; simp))
  obtain ⟨z, hz⟩ : ∃ z : List UInt8, z = List.replicate 16 0 := ⟨_, rfl⟩
  have HZ : Hid (z.length = 16) := hid (by rw [hz]; simp)
  have HB := hid hb
  have HN1 : ∀ A c, Hid ((Try.prog.info? 50).map (·.size) = some (NV k b A m c).size) := fun A c => hid (by rw [NV_size HB.out]; exact sz50)
  have HN2 : ∀ A c, Hid ((NV 0 z none 0 0).size = (NV k b A m c).size) := fun A c => hid (by rw [NV_size HB.out, NV_size HZ.out])
  have HN0 : Hid ((Try.prog.info? 50).map (·.size) = some (NV 0 z none 0 0).size) := hid (by rw [NV_size HZ.out]; exact sz50)
  obtain ⟨i0, hi, hz0, hz1, hz2⟩ := info_parts info5
  have Hi := hid hi
  try rw [← hz]
  clear hi hz0 hz1 hz2 hp hpg hb hm hl
  have rd0 : Rd (w.alloc (.cells (BV p).toArray 28)) (some ⟨w.heap.size, 0, none⟩) (BV p) := Rd.new rfl (by simp)
  go_enter Try.func36, Try.ntmps36
  go_wp2_with (first
    | (go_at_call 92; refine (New92_calls _ _ _ p _ (Rd.al rd0 _) HP.out.symm (by rw [HP.out]; omega)).mono ?_; rintro e w1 ⟨g, rfl, hgl, hR, hE1⟩; rw [NV_lit, ← hz] at hE1 hgl; have B1 : Blk w1 w.heap.size 28 (BV p).toArray := ((Blk.new w 28 _).al _).ext hE1; have B2 : Blk w1 (w.heap.size + 1) 50 (NV 0 z none 0 0) := (Blk.new_ (by simp)).ext hE1; have E1 : Ext w w1 := ((Ext.rfl'.al _).al _).tr hE1; simp at hgl)
    | (go_at_call 91; refine (RD _ _ hR).out.mono ?_; rintro e w2 ⟨A, c, rfl, hrd, hA, hg2⟩; have HA := hid hA; have hb2 := hid B2.lt; clear hA; have C1 := B1.grown hg2 (by intro e; cases e; omega); have C2 := B2.grown hg2 (by intro e; cases e; omega); have E2 : Ext w w2 := E1.trans (gb_below hg2 (by omega) E1.size); clear B1 B2)
    | (refine fit (.store 50 (.tmp 4) (.tmp 9)) ?_; simp only [NV_lit]; rw [← hz]; refine wpl_fresh rfl 50 (.tmp 4) (.tmp 9) rfl rfl rfl (HN1 A c).out (HN2 A c).out NV_one ?_; intro W3 hE3 D4 hs3; have E3 := E2.tr hE3; have D1 := C1.ext hE3; have D2 := C2.ext hE3; have hrd3 := hrd.ext hE3)
    | (refine fit (.load 50 (.tmp 4)) ?_; refine wpl_do rfl (wp_load 50 (.tmp 4) rfl rfl D4 Try.underlying50 rfl (HN1 A c).out ?_))
    | (go_at_call 35; refine (PG _ _ _ hrd3).out.mono ?_; rintro e w4 ⟨rfl, hE4⟩; have E4 := E3.tr hE4; have F1 := D1.ext hE4; have F2 := D2.ext hE4; have F4 := D4.ext hE4; have hrd4 := hrd3.ext hE4)
    | (refine fit (.store 28 (.tmp 5) (.tmp 13)) ?_; refine wpl_fresh rfl 28 (.tmp 5) (.tmp 13) rfl rfl rfl HSg.out HZg.out (BV_all _) ?_; intro W5 hE5 G5 hs5; have E5 := E4.tr hE5; have G1 := F1.ext hE5; have G2 := F2.ext hE5; have G4 := F4.ext hE5; have hrd5 := hrd4.ext hE5)
    | (refine fit (.load 28 (.tmp 5)) ?_; refine wpl_do rfl (wp_load 28 (.tmp 5) rfl rfl G5 Try.underlying28 rfl HSg.out ?_))
    | (refine fit (.load 28 (.tmp 1)) ?_; refine wpl_do rfl (wp_load 28 (.tmp 1) rfl rfl G1 Try.underlying28 rfl HSp.out ?_))
    | (refine fit (.load 50 (.tmp 4)) ?_; refine wpl_do rfl (wp_load 50 (.tmp 4) rfl rfl G4 Try.underlying50 rfl (HN1 A c).out ?_))
    | (refine fit (.store 50 (.tmp 2) (.tmp 22)) ?_; simp only [NV_lit]; rw [← hz]; refine wpl_store rfl 50 (.tmp 2) (.tmp 22) rfl rfl rfl G2 HN0.out rfl NV_one ?_; intro W6 hW6 G6 hb6 hf6 hs6))
  exact ret2 rfl (RV.cell rfl G6 Try.underlying50 rfl HN0.out) (RV.tmp rfl) rfl ⟨none, 0, rfl, Rd.nil, E5.trans (hb6.mono (by omega))⟩
set_option maxHeartbeats 4000000 in
theorem open_aux2 {w : World} (p pg : List UInt8) (k : Int) (b : List UInt8) (l : List (Int × Int)) (m : Nat) (hp : p.length = 256) (hpg : pg.length = 256) (hb : b.length = 16) (hm : m = l.length) (hl : l.length ≤ 6) (hne : Hid (pg ≠ p))
    (RD : ∀ W g, RdAt W g p false → Hid (Calls Try.prog 91 #[.pointer (some ⟨g, 0, none⟩)] W fun e w' => ∃ A c, e = .returned (.agg (NV k b A m c)) ∧ Rd w' A (EV l) ∧ (∀ ad, A = some ad → W.heap.size ≤ ad.block) ∧ W.grownBy w' (some g)))
    (PG : ∀ W A c, Rd W A (EV l) → Hid (Calls Try.prog 35 #[.agg (NV k b A m c)] W fun e w' => e = .returned (.tuple #[.agg (BV pg).toArray, .int .i64 0]) ∧ Ext W w')) :
    Calls Try.prog 36 #[.agg (BV p).toArray] w fun e w' => ∃ A c, e = .returned (.tuple #[.agg (NV 0 (List.replicate 16 0) A 0 c), .int .i64 81]) ∧ Rd w' A (EV []) ∧ Ext w w' := by
  have HP := hid hp
  have HPG := hid hpg
  have HSp := hid (BV_size sz28 hp)
  have HSg := hid (BV_size sz28 hpg)
  have HZg : Hid (Try.zeroCells28.size = (BV pg).toArray.size) := hid (by rw [z28]; exact BV_sizes (by rw [hpg]; simp))
  obtain ⟨z, hz⟩ : ∃ z : List UInt8, z = List.replicate 16 0 := ⟨_, rfl⟩
  have HZ : Hid (z.length = 16) := hid (by rw [hz]; simp)
  have HB := hid hb
  have HN1 : ∀ A c, Hid ((Try.prog.info? 50).map (·.size) = some (NV k b A m c).size) := fun A c => hid (by rw [NV_size HB.out]; exact sz50)
  have HN2 : ∀ A c, Hid ((NV 0 z none 0 0).size = (NV k b A m c).size) := fun A c => hid (by rw [NV_size HB.out, NV_size HZ.out])
  have HN0 : Hid ((Try.prog.info? 50).map (·.size) = some (NV 0 z none 0 0).size) := hid (by rw [NV_size HZ.out]; exact sz50)
  obtain ⟨i0, hi, hz0, hz1, hz2⟩ := info_parts info5
  have Hi := hid hi
  try rw [← hz]
  clear hi hz0 hz1 hz2 hp hpg hb hm hl
  have rd0 : Rd (w.alloc (.cells (BV p).toArray 28)) (some ⟨w.heap.size, 0, none⟩) (BV p) := Rd.new rfl (by simp)
  go_enter Try.func36, Try.ntmps36
  go_wp2_with (first
    | (go_at_call 92; refine (New92_calls _ _ _ p _ (Rd.al rd0 _) HP.out.symm (by rw [HP.out]; omega)).mono ?_; rintro e w1 ⟨g, rfl, hgl, hR, hE1⟩; rw [NV_lit, ← hz] at hE1 hgl; have B1 : Blk w1 w.heap.size 28 (BV p).toArray := ((Blk.new w 28 _).al _).ext hE1; have B2 : Blk w1 (w.heap.size + 1) 50 (NV 0 z none 0 0) := (Blk.new_ (by simp)).ext hE1; have E1 : Ext w w1 := ((Ext.rfl'.al _).al _).tr hE1; simp at hgl)
    | (go_at_call 91; refine (RD _ _ hR).out.mono ?_; rintro e w2 ⟨A, c, rfl, hrd, hA, hg2⟩; have HA := hid hA; have hb2 := hid B2.lt; clear hA; have C1 := B1.grown hg2 (by intro e; cases e; omega); have C2 := B2.grown hg2 (by intro e; cases e; omega); have E2 : Ext w w2 := E1.trans (gb_below hg2 (by omega) E1.size); clear B1 B2)
    | (refine fit (.store 50 (.tmp 4) (.tmp 9)) ?_; simp only [NV_lit]; rw [← hz]; refine wpl_fresh rfl 50 (.tmp 4) (.tmp 9) rfl rfl rfl (HN1 A c).out (HN2 A c).out NV_one ?_; intro W3 hE3 D4 hs3; have E3 := E2.tr hE3; have D1 := C1.ext hE3; have D2 := C2.ext hE3; have hrd3 := hrd.ext hE3)
    | (refine fit (.load 50 (.tmp 4)) ?_; refine wpl_do rfl (wp_load 50 (.tmp 4) rfl rfl D4 Try.underlying50 rfl (HN1 A c).out ?_))
    | (go_at_call 35; refine (PG _ _ _ hrd3).out.mono ?_; rintro e w4 ⟨rfl, hE4⟩; have E4 := E3.tr hE4; have F1 := D1.ext hE4; have F2 := D2.ext hE4; have F4 := D4.ext hE4; have hrd4 := hrd3.ext hE4)
    | (refine fit (.store 28 (.tmp 5) (.tmp 13)) ?_; refine wpl_fresh rfl 28 (.tmp 5) (.tmp 13) rfl rfl rfl HSg.out HZg.out (BV_all _) ?_; intro W5 hE5 G5 hs5; have E5 := E4.tr hE5; have G1 := F1.ext hE5; have G2 := F2.ext hE5; have G4 := F4.ext hE5; have hrd5 := hrd4.ext hE5)
    | (refine fit (.load 28 (.tmp 5)) ?_; refine wpl_do rfl (wp_load 28 (.tmp 5) rfl rfl G5 Try.underlying28 rfl HSg.out ?_))
    | (refine fit (.load 28 (.tmp 1)) ?_; refine wpl_do rfl (wp_load 28 (.tmp 1) rfl rfl G1 Try.underlying28 rfl HSp.out ?_))
    | (refine fit (.load 50 (.tmp 4)) ?_; refine wpl_do rfl (wp_load 50 (.tmp 4) rfl rfl G4 Try.underlying50 rfl (HN1 A c).out ?_))
    | (refine fit (.binOp .neq 28 (.tmp 18) (.tmp 19) 28) ?_; refine wpl_eq_bytes rfl .neq (.inr rfl) 28 (.tmp 18) (.tmp 19) 28 rfl Try.underlying28 Hi.out co5 Try.underlying5 eg28 rfl rfl HPG.out HP.out true (by have := hne.out; simp [this]) ?_)
    | (refine fit (.store 50 (.tmp 2) (.tmp 22)) ?_; simp only [NV_lit]; rw [← hz]; refine wpl_store rfl 50 (.tmp 2) (.tmp 22) rfl rfl rfl G2 HN0.out rfl NV_one ?_; intro W6 hW6 G6 hb6 hf6 hs6))
  exact ret2 rfl (RV.cell rfl G6 Try.underlying50 rfl HN0.out) (RV.tmp rfl) rfl ⟨none, 0, rfl, Rd.nil, E5.trans (hb6.mono (by omega))⟩
set_option maxHeartbeats 4000000 in
theorem open_aux3 {w : World} (p pg : List UInt8) (k : Int) (b : List UInt8) (l : List (Int × Int)) (m : Nat) (hp : p.length = 256) (hpg : pg.length = 256) (hb : b.length = 16) (hm : m = l.length) (hl : l.length ≤ 6) (heq : Hid (pg = p))
    (RD : ∀ W g, RdAt W g p false → Hid (Calls Try.prog 91 #[.pointer (some ⟨g, 0, none⟩)] W fun e w' => ∃ A c, e = .returned (.agg (NV k b A m c)) ∧ Rd w' A (EV l) ∧ (∀ ad, A = some ad → W.heap.size ≤ ad.block) ∧ W.grownBy w' (some g)))
    (PG : ∀ W A c, Rd W A (EV l) → Hid (Calls Try.prog 35 #[.agg (NV k b A m c)] W fun e w' => e = .returned (.tuple #[.agg (BV pg).toArray, .int .i64 0]) ∧ Ext W w')) :
    Calls Try.prog 36 #[.agg (BV p).toArray] w fun e w' => ∃ A c, e = .returned (.tuple #[.agg (NV k b A m c), .int .i64 0]) ∧ Rd w' A (EV l) ∧ Ext w w' := by
  have HP := hid hp
  have HPG := hid hpg
  have HSp := hid (BV_size sz28 hp)
  have HSg := hid (BV_size sz28 hpg)
  have HZg : Hid (Try.zeroCells28.size = (BV pg).toArray.size) := hid (by rw [z28]; exact BV_sizes (by rw [hpg]; simp))
  obtain ⟨z, hz⟩ : ∃ z : List UInt8, z = List.replicate 16 0 := ⟨_, rfl⟩
  have HZ : Hid (z.length = 16) := hid (by rw [hz]; simp)
  have HB := hid hb
  have HN1 : ∀ A c, Hid ((Try.prog.info? 50).map (·.size) = some (NV k b A m c).size) := fun A c => hid (by rw [NV_size HB.out]; exact sz50)
  have HN2 : ∀ A c, Hid ((NV 0 z none 0 0).size = (NV k b A m c).size) := fun A c => hid (by rw [NV_size HB.out, NV_size HZ.out])
  have HN0 : Hid ((Try.prog.info? 50).map (·.size) = some (NV 0 z none 0 0).size) := hid (by rw [NV_size HZ.out]; exact sz50)
  obtain ⟨i0, hi, hz0, hz1, hz2⟩ := info_parts info5
  have Hi := hid hi
  try rw [← hz]
  clear hi hz0 hz1 hz2 hp hpg hb hm hl
  have rd0 : Rd (w.alloc (.cells (BV p).toArray 28)) (some ⟨w.heap.size, 0, none⟩) (BV p) := Rd.new rfl (by simp)
  go_enter Try.func36, Try.ntmps36
  go_wp2_with (first
    | (go_at_call 92; refine (New92_calls _ _ _ p _ (Rd.al rd0 _) HP.out.symm (by rw [HP.out]; omega)).mono ?_; rintro e w1 ⟨g, rfl, hgl, hR, hE1⟩; rw [NV_lit, ← hz] at hE1 hgl; have B1 : Blk w1 w.heap.size 28 (BV p).toArray := ((Blk.new w 28 _).al _).ext hE1; have B2 : Blk w1 (w.heap.size + 1) 50 (NV 0 z none 0 0) := (Blk.new_ (by simp)).ext hE1; have E1 : Ext w w1 := ((Ext.rfl'.al _).al _).tr hE1; simp at hgl)
    | (go_at_call 91; refine (RD _ _ hR).out.mono ?_; rintro e w2 ⟨A, c, rfl, hrd, hA, hg2⟩; have HA := hid hA; have hb2 := hid B2.lt; clear hA; have C1 := B1.grown hg2 (by intro e; cases e; omega); have C2 := B2.grown hg2 (by intro e; cases e; omega); have E2 : Ext w w2 := E1.trans (gb_below hg2 (by omega) E1.size); clear B1 B2)
    | (refine fit (.store 50 (.tmp 4) (.tmp 9)) ?_; simp only [NV_lit]; rw [← hz]; refine wpl_fresh rfl 50 (.tmp 4) (.tmp 9) rfl rfl rfl (HN1 A c).out (HN2 A c).out NV_one ?_; intro W3 hE3 D4 hs3; have E3 := E2.tr hE3; have D1 := C1.ext hE3; have D2 := C2.ext hE3; have hrd3 := hrd.ext hE3)
    | (refine fit (.load 50 (.tmp 4)) ?_; refine wpl_do rfl (wp_load 50 (.tmp 4) rfl rfl D4 Try.underlying50 rfl (HN1 A c).out ?_))
    | (go_at_call 35; refine (PG _ _ _ hrd3).out.mono ?_; rintro e w4 ⟨rfl, hE4⟩; have E4 := E3.tr hE4; have F1 := D1.ext hE4; have F2 := D2.ext hE4; have F4 := D4.ext hE4; have hrd4 := hrd3.ext hE4)
    | (refine fit (.store 28 (.tmp 5) (.tmp 13)) ?_; refine wpl_fresh rfl 28 (.tmp 5) (.tmp 13) rfl rfl rfl HSg.out HZg.out (BV_all _) ?_; intro W5 hE5 G5 hs5; have E5 := E4.tr hE5; have G1 := F1.ext hE5; have G2 := F2.ext hE5; have G4 := F4.ext hE5; have hrd5 := hrd4.ext hE5)
    | (refine fit (.load 28 (.tmp 5)) ?_; refine wpl_do rfl (wp_load 28 (.tmp 5) rfl rfl G5 Try.underlying28 rfl HSg.out ?_))
    | (refine fit (.load 28 (.tmp 1)) ?_; refine wpl_do rfl (wp_load 28 (.tmp 1) rfl rfl G1 Try.underlying28 rfl HSp.out ?_))
    | (refine fit (.load 50 (.tmp 4)) ?_; refine wpl_do rfl (wp_load 50 (.tmp 4) rfl rfl G4 Try.underlying50 rfl (HN1 A c).out ?_))
    | (refine fit (.binOp .neq 28 (.tmp 18) (.tmp 19) 28) ?_; refine wpl_eq_bytes rfl .neq (.inr rfl) 28 (.tmp 18) (.tmp 19) 28 rfl Try.underlying28 Hi.out co5 Try.underlying5 eg28 rfl rfl HPG.out HP.out false (by have := heq.out; simp [this]) ?_)
    | (refine fit (.store 50 (.tmp 2) (.tmp 23)) ?_; refine wpl_store rfl 50 (.tmp 2) (.tmp 23) rfl rfl rfl G2 (HN1 A c).out (HN2 A c).out NV_one ?_; intro W6 hW6 G6 hb6 hf6 hs6))
  have gk : W5.grownBy W6 (some (w.heap.size + 1)) := by
    have hw := hW6.out
    rw [hw]
    exact ⟨rfl, rfl, rfl, by simp [World.setRow], fun i hi hne => setRow_other _ _ _ _ (fun e => hne (by rw [e]))⟩
  refine ret2 rfl (RV.cell rfl G6 Try.underlying50 rfl (HN1 A c).out) (RV.tmp rfl) rfl ⟨A, c, rfl, ?_, E5.trans (hb6.mono (by omega))⟩
  exact hrd5.gb gk (fun ad ha => by have := HA.out ad ha; have := hb2.out; omega)
/-- Is it the page of the node that it seems to say? -/
def openB (p : List UInt8) : Bool := rightB (kN p) (bN p) (eN p) && decide (pageB (nodeB (kN p) (bN p) (eN p)) = p)
theorem LOpen_yes {w : World} (p : List UInt8) (hp : p.length = 256) (ho : openB p = true) :
    Calls Try.prog 36 #[.agg (BV p).toArray] w fun e w' => ∃ A c, e = .returned (.tuple #[.agg (NV (kN p) (bN p) A (eN p).length c), .int .i64 0]) ∧ Rd w' A (EV (eN p)) ∧ Ext w w' := by
  unfold openB at ho
  rw [Bool.and_eq_true, decide_eq_true_eq] at ho
  have hb := bN_length hp
  refine open_aux3 p (pageN (kN p) (bN p) (eN p)) (kN p) (bN p) (eN p) _ hp (pageN_length hb) hb rfl (eN_length p) (hid (by unfold pageN; rw [if_pos ho.1]; exact ho.2)) (fun W g R => hid (read_calls p hp R)) (fun W A c hr => hid ?_)
  have := LPage_calls (c := c) (kN p) (bN p) (eN p) hb hr (by have := eN_length p; omega)
  unfold errN at this
  rwa [if_pos ho.1] at this
theorem LOpen_no {w : World} (p : List UInt8) (hp : p.length = 256) (ho : openB p = false) :
    Calls Try.prog 36 #[.agg (BV p).toArray] w fun e w' => ∃ A c, e = .returned (.tuple #[.agg (NV 0 (List.replicate 16 0) A 0 c), .int .i64 81]) ∧ Rd w' A (EV []) ∧ Ext w w' := by
  unfold openB at ho
  have hb := bN_length hp
  cases hR : rightB (kN p) (bN p) (eN p)
  · refine open_aux1 p (pageN (kN p) (bN p) (eN p)) (kN p) (bN p) (eN p) _ hp (pageN_length hb) hb rfl (eN_length p) (fun W g R => hid (read_calls p hp R)) (fun W A c hr => hid ?_)
    have := LPage_calls (c := c) (kN p) (bN p) (eN p) hb hr (by have := eN_length p; omega)
    unfold errN at this
    rwa [if_neg (by rw [hR]; decide)] at this
  · rw [hR, Bool.true_and, decide_eq_false_iff_not] at ho
    refine open_aux2 p (pageN (kN p) (bN p) (eN p)) (kN p) (bN p) (eN p) _ hp (pageN_length hb) hb rfl (eN_length p) (hid (by unfold pageN; rw [if_pos hR]; exact ho)) (fun W g R => hid (read_calls p hp R)) (fun W A c hr => hid ?_)
    have := LPage_calls (c := c) (kN p) (bN p) (eN p) hb hr (by have := eN_length p; omega)
    unfold errN at this
    rwa [if_pos hR] at this
end Go.Proofs.Ytnggcldghpmeaaa
