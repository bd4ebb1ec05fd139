/- The law LeafOpens: the node of any page is the reference's. -/
import Derived.Test.YtnggcldghpmeaaaM4
import Derived.Test.YtnggcldghpmeaaaM5d1
import Derived.Test.YtnggcldghpmeaaaM5d2
import Derived.Test.YtnggcldghpmeaaaM5d3
import Derived.Test.YtnggcldghpmeaaaM5e1
import Derived.Test.YtnggcldghpmeaaaM5e2
import Derived.Test.YtnggcldghpmeaaaM5e3
set_option linter.unusedVariables false
set_option linter.unusedSimpArgs false
set_option maxRecDepth 100000
namespace Go.Proofs.Ytnggcldghpmeaaa
open Go.RowKit
attribute [local irreducible] Calls
theorem kN_cell {p : List UInt8} (hp : p.length = 256) : ((BV p).toArray)[0]? = some (.int .u8 (kN p)) := by
  have h := BV_cell (l := p) (k := 0) (by omega)
  rw [h]
  unfold kN
  rw [leN_one p (by omega)]
  rfl
theorem kN_head {p : List UInt8} (hp : p.length = 256) (hk : kN p = 1) : (p.map (fun x => (x.toNat : Int))).head? = some 1 := by
  unfold kN at hk
  match p, hp with
  | x :: p, _ => simp [leN] at hk ⊢; omega
theorem c1_cell {p : List UInt8} (hp : p.length = 256) : ((BV p).toArray)[1]? = some (.int .u8 (leN ((p.drop 1).take 1) : Int)) := by
  have h := BV_cell (l := p) (k := 1) (by omega)
  rw [h, leN_drop p 1 (by omega)]
  rfl
theorem ROpen_yes {w : World} (p : List UInt8) (hp : p.length = 256) (ho : openB p = true) :
    Calls Try.prog 38 #[.agg (BV p).toArray] w fun e w' => ∃ A c, e = .returned (.tuple #[.agg (NV (kN p) (bN p) A (eN p).length c), .int .i64 0]) ∧ Rd w' A (EV (eN p)) ∧ Ext w w' := by
  obtain ⟨hR, hpg⟩ := open_right ho
  have hb := bN_length hp
  have hl := pageN_length (k := kN p) (l := eN p) hb
  have hx : pageN (kN p) (bN p) (eN p) = p := by unfold pageN; rw [if_pos hR]; exact hpg
  have PG := fun (W : World) (A : Option Addr) (c : Nat) (hr : Rd W A (EV (eN p))) => hid (RPage_calls (c := c) (kN p) (bN p) (eN p) hb hr (eN_length p))
  unfold errN at PG
  rw [if_pos hR] at PG
  by_cases hk : kN p = 1
  · have e1 : eN p = [] := by simp [eN, hk]
    have e2 : bN p = (p.drop 1).take 16 := by simp [bN, hk]
    have := ropen_d3 (w := w) p (pageN (kN p) (bN p) (eN p)) hp hl (bN p) e2 (kN_head hp hk) (by rw [e1, hk] at PG ⊢; exact PG) (hid hx)
    rw [hk, e1]
    exact this
  · have e1 : eN p = ents (min (leN ((p.drop 1).take 1)) 6) (p.drop 2) := by simp [eN, hk]
    have e2 : bN p = List.replicate 16 0 := by simp [bN, hk]
    have h1 := leN1 p
    have h2 := leN1 (p.drop 1)
    have hx' := hx
    rw [e1, e2] at PG hl hx'
    rw [ents_length] at PG
    have := ropen_e3 (w := w) p _ hp hl (kN p) (leN ((p.drop 1).take 1)) (min (leN ((p.drop 1).take 1)) 6) (by unfold kN; omega) (by unfold kN; omega) hk (by omega) (by omega) (kN_cell hp) (c1_cell hp) (by split <;> omega) PG (hid hx')
    rw [e1, e2, ents_length]
    exact this
theorem ROpen_no {w : World} (p : List UInt8) (hp : p.length = 256) (ho : openB p = false) :
    Calls Try.prog 38 #[.agg (BV p).toArray] w fun e w' => ∃ A c, e = .returned (.tuple #[.agg (NV 0 (List.replicate 16 0) A 0 c), .int .i64 81]) ∧ Rd w' A (EV []) ∧ Ext w w' := by
  have hb := bN_length hp
  have hl := pageN_length (k := kN p) (l := eN p) hb
  have PG := fun (W : World) (A : Option Addr) (c : Nat) (hr : Rd W A (EV (eN p))) => hid (RPage_calls (c := c) (kN p) (bN p) (eN p) hb hr (eN_length p))
  unfold openB at ho
  cases hR : rightB (kN p) (bN p) (eN p)
  · unfold errN at PG
    rw [if_neg (by rw [hR]; decide)] at PG
    by_cases hk : kN p = 1
    · have e1 : eN p = [] := by simp [eN, hk]
      have e2 : bN p = (p.drop 1).take 16 := by simp [bN, hk]
      exact ropen_d1 (w := w) p (pageN (kN p) (bN p) (eN p)) hp hl (bN p) e2 (kN_head hp hk) (by rw [e1, hk] at PG ⊢; exact PG)
    · have e1 : eN p = ents (min (leN ((p.drop 1).take 1)) 6) (p.drop 2) := by simp [eN, hk]
      have e2 : bN p = List.replicate 16 0 := by simp [bN, hk]
      have h1 := leN1 p
      have h2 := leN1 (p.drop 1)
      rw [e1, e2] at PG hl
      rw [ents_length] at PG
      exact ropen_e1 (w := w) p _ hp hl (kN p) (leN ((p.drop 1).take 1)) (min (leN ((p.drop 1).take 1)) 6) (by unfold kN; omega) (by unfold kN; omega) hk (by omega) (by omega) (kN_cell hp) (c1_cell hp) (by split <;> omega) PG
  · rw [hR, Bool.true_and, decide_eq_false_iff_not] at ho
    have hx : pageN (kN p) (bN p) (eN p) ≠ p := by unfold pageN; rw [if_pos hR]; exact ho
    unfold errN at PG
    rw [if_pos hR] at PG
    by_cases hk : kN p = 1
    · have e1 : eN p = [] := by simp [eN, hk]
      have e2 : bN p = (p.drop 1).take 16 := by simp [bN, hk]
      exact ropen_d2 (w := w) p (pageN (kN p) (bN p) (eN p)) hp hl (bN p) e2 (kN_head hp hk) (by rw [e1, hk] at PG ⊢; exact PG) (hid hx)
    · have e1 : eN p = ents (min (leN ((p.drop 1).take 1)) 6) (p.drop 2) := by simp [eN, hk]
      have e2 : bN p = List.replicate 16 0 := by simp [bN, hk]
      have h1 := leN1 p
      have h2 := leN1 (p.drop 1)
      rw [e1, e2] at PG hl hx
      rw [ents_length] at PG
      exact ropen_e2 (w := w) p _ hp hl (kN p) (leN ((p.drop 1).take 1)) (min (leN ((p.drop 1).take 1)) 6) (by unfold kN; omega) (by unfold kN; omega) hk (by omega) (by omega) (kN_cell hp) (c1_cell hp) (by split <;> omega) PG (hid hx)
set_option maxHeartbeats 4000000 in
theorem opens_aux {w : World} (p : List UInt8) (hp : p.length = 256) (k ec : Int) (b z : List UInt8) (l : List (Int × Int)) (n : Nat) (hb : b.length = 16) (hzl : z.length = 16) (hz : z = List.replicate 16 0)
    (LO : ∀ W, Hid (Calls Try.prog 36 #[.agg (BV p).toArray] W fun e w' => ∃ A c, e = .returned (.tuple #[.agg (NV k b A n c), .int .i64 ec]) ∧ Rd w' A (EV l) ∧ Ext W w'))
    (RO : ∀ W, Hid (Calls Try.prog 38 #[.agg (BV p).toArray] W fun e w' => ∃ A c, e = .returned (.tuple #[.agg (NV k b A n c), .int .i64 ec]) ∧ Rd w' A (EV l) ∧ Ext W w'))
    (SM : ∀ W A c A2 c2, Rd W A (EV l) → Rd W A2 (EV l) → Hid (Calls Try.prog 39 #[.agg (NV k b A n c), .agg (NV k b A2 n c2)] W fun e w' => e = .returned (.bool true) ∧ Ext W w')) :
    Calls Try.prog 8 #[.agg (BV p).toArray] w fun e w' => e = .returned (.bool true) ∧ Ext w w' := by
  have HS := hid (BV_size sz28 hp)
  have HB := hid hb
  have HZ := hid hzl
  have HZE := hid hz
  have HN1 : ∀ A c, Hid ((Try.prog.info? 50).map (·.size) = some (NV k b A n c).size) := fun A c => hid (by rw [NV_size HB.out]; exact sz50)
  have HN2 : ∀ A c, Hid ((NV 0 z none 0 0).size = (NV k b A n c).size) := fun A c => hid (by rw [NV_size HB.out, NV_size HZ.out])
  clear hp hb hzl hz
  go_enter Try.func8, Try.ntmps8
  go_wp2_with (first
    | (go_at_call 37; refine (leafAlive_calls _).mono ?_; rintro e w1 ⟨rfl, hE1⟩; have E1 := (Ext.rfl'.al _).tr hE1; have B1 := (Blk.new w 28 (BV p).toArray).ext hE1)
    | (refine fit (.load 28 (.tmp 1)) ?_; refine wpl_do rfl (wp_load 28 (.tmp 1) rfl rfl B1 Try.underlying28 rfl HS.out ?_))
    | (go_at_call 36; refine (LO _).out.mono ?_; rintro e w2 ⟨A, c, rfl, hrd, hE2⟩; have E2 := E1.tr hE2)
    | (refine fit (.store 50 (.tmp 3) (.tmp 12)) ?_; simp only [NV_litS]; rw [← HZE.out]; refine wpl_fresh rfl 50 (.tmp 3) (.tmp 12) rfl rfl rfl (HN1 A c).out (HN2 A c).out NV_one ?_; intro w3 hE3 N3 hs3; have E3 := E2.tr hE3; have C1 := (B1.ext hE2).ext hE3; have hrd3 := hrd.ext hE3; clear hs3)
    | (refine fit (.load 28 (.tmp 1)) ?_; refine wpl_do rfl (wp_load 28 (.tmp 1) rfl rfl C1 Try.underlying28 rfl HS.out ?_))
    | (go_at_call 38; refine (RO _).out.mono ?_; rintro e w4 ⟨A2, c2, rfl, hrd2, hE4⟩; have E4 := E3.tr hE4)
    | (refine fit (.store 50 (.tmp 5) (.tmp 17)) ?_; simp only [NV_litS]; rw [← HZE.out]; refine wpl_fresh rfl 50 (.tmp 5) (.tmp 17) rfl rfl rfl (HN1 A2 c2).out (HN2 A2 c2).out NV_one ?_; intro w5 hE5 N5 hs5; have E5 := E4.tr hE5; have M3 := (N3.ext hE4).ext hE5; have hrd5 := (hrd3.ext hE4).ext hE5; have hrd25 := hrd2.ext hE5; clear hs5)
    | (refine fit (.load 50 (.tmp 3)) ?_; refine wpl_do rfl (wp_load 50 (.tmp 3) rfl rfl M3 Try.underlying50 rfl (HN1 A c).out ?_))
    | (refine fit (.load 50 (.tmp 5)) ?_; refine wpl_do rfl (wp_load 50 (.tmp 5) rfl rfl N5 Try.underlying50 rfl (HN1 A2 c2).out ?_))
    | (go_at_call 39; refine (SM _ A c A2 c2 hrd5 hrd25).out.mono ?_; rintro e w6 ⟨rfl, hE6⟩; have E6 := E5.tr hE6))
  go_ret
  exact ⟨rfl, E6⟩
theorem opens_calls {w : World} (p : List UInt8) (hp : p.length = 256) : Calls Try.prog 8 #[.agg (BV p).toArray] w fun e w' => e = .returned (.bool true) ∧ Ext w w' := by
  have hz : (List.replicate 16 (0 : UInt8)).length = 16 := by simp
  cases ho : openB p
  · exact opens_aux p hp 0 81 (List.replicate 16 0) (List.replicate 16 0) [] 0 hz hz rfl (fun W => hid (LOpen_no p hp ho)) (fun W => hid (ROpen_no p hp ho))
      (fun W A c A2 c2 h1 h2 => hid (RSame_calls (c := c) (c2 := c2) 0 _ [] hz h1 h2 (by simp)))
  · exact opens_aux p hp (kN p) 0 (bN p) (List.replicate 16 0) (eN p) (eN p).length (bN_length hp) hz rfl (fun W => hid (LOpen_yes p hp ho)) (fun W => hid (ROpen_yes p hp ho))
      (fun W A c A2 c2 h1 h2 => hid (RSame_calls (c := c) (c2 := c2) (kN p) (bN p) (eN p) (bN_length hp) h1 h2 (by have := eN_length p; omega)))
end Go.Proofs.Ytnggcldghpmeaaa
