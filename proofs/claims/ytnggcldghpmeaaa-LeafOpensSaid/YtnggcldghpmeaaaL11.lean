/- The package leaf: where a key belongs, walked. -/
import Derived.Test.YtnggcldghpmeaaaL4
set_option linter.unusedVariables false
set_option linter.unusedSimpArgs false
set_option maxRecDepth 100000
namespace Go.Proofs.Ytnggcldghpmeaaa
open Go.RowKit
attribute [local irreducible] Calls
/-- A number halved by a shift. -/
theorem wpl_half {P : Program} {w : World} {ops : Array Oper} {rest : List Oper} {o : Oper} {a : Act} {Q : Exit → Act → World → Prop} (hgd : o.guard = none) (t : TypeId) (x : Operand) (yt : TypeId) (ho : o.op = .binOp .shr t x (.const (.int .u64 1)) yt)
    {u r : Int} (hx : a.eval x = .int .u64 u) (hr : u / 2 = r) (h : wpList P ops Q rest (a.put o.dst (.int .u64 r)) w) : wpList P ops Q (o :: rest) a w := by
  refine wpList_plain hgd fun _ hK => ?_
  have he : a.eval (.const (.int .u64 1)) = .int .u64 1 := rfl
  unfold Oper.wp execOp
  simp only [ho, hx, he, Sem.run_bind, eqGuard_shr, Sem.run_pure, Result.andThen_ok, binOp_shr, shift_shr_u64 (yk := .u64) (x := u) (y := 1) (by decide) (by decide)]
  have e : u / 2 ^ (1 : Int).toNat = r := by simpa using hr
  rw [e]
  exact hK _ _ h
theorem isNaN_calls (x : Int) (w : World) : Calls Try.prog 166 #[.int .i64 x] w fun e w' => e = .returned (.bool false) ∧ w = w' := by
  go_enter Try.func166, Try.ntmps166
  go_wp2
  go_ret
  refine ⟨?_, rfl⟩
  simp
def cmpI (a b : Int) : Int := if a < b then -1 else if b < a then 1 else 0
theorem Compare_calls (a b : Int) (w : World) : Calls Try.prog 97 #[.int .i64 a, .int .i64 b] w fun e w' => e = .returned (.int .i64 (cmpI a b)) ∧ w = w' := by
  obtain ⟨r, hr⟩ : ∃ r, r = cmpI a b := ⟨_, rfl⟩
  rw [← hr]
  have HR := hid hr
  clear hr
  by_cases h1 : a < b
  · have HRR : Hid (r = -1) := hid (by rw [HR.out]; simp [cmpI, h1])
    go_enter Try.func97, Try.ntmps97
    go_wp2_with (go_at_call 166; refine (isNaN_calls _ _).mono ?_; rintro e w' ⟨rfl, rfl⟩)
    go_ret
    exact ⟨by rw [HRR.out]; rfl, rfl⟩
  · by_cases h2 : b < a
    · have HRR : Hid (r = 1) := hid (by rw [HR.out]; simp [cmpI, h1, h2])
      go_enter Try.func97, Try.ntmps97
      go_wp2_with (go_at_call 166; refine (isNaN_calls _ _).mono ?_; rintro e w' ⟨rfl, rfl⟩)
      go_ret
      exact ⟨by rw [HRR.out]; rfl, rfl⟩
    · have HRR : Hid (r = 0) := hid (by rw [HR.out]; simp [cmpI, h1, h2])
      go_enter Try.func97, Try.ntmps97
      go_wp2_with (go_at_call 166; refine (isNaN_calls _ _).mono ?_; rintro e w' ⟨rfl, rfl⟩)
      go_ret
      exact ⟨by rw [HRR.out]; rfl, rfl⟩
theorem cmp_lt {a b : Int} (h : cmpI a b < 0) : a < b := by
  unfold cmpI at h
  split at h
  · assumption
  · split at h <;> omega
theorem cmp_ge {a b : Int} (h : ¬ cmpI a b < 0) : b ≤ a := by
  unfold cmpI at h
  split at h <;> omega
theorem cmp_eq {a b : Int} : cmpI a b = 0 ↔ a = b := by
  unfold cmpI
  split
  · omega
  · split <;> omega
theorem At1_calls (a p k : Int) (w : World) : Calls Try.prog 96 #[.agg #[.int .i64 a, .int .i64 p], .int .i64 k] w fun e w' => e = .returned (.int .i64 (cmpI a k)) ∧ Ext w w' := by
  go_enter Try.func96, Try.ntmps96
  go_wp2_with (go_at_call 97; refine (Compare_calls _ _ _).mono ?_; rintro e w' ⟨rfl, rfl⟩)
  go_ret
  exact ⟨rfl, Ext.rfl'.al _⟩
def keyAt (l : List (Int × Int)) (x : Nat) : Int := (l.getD x (0, 0)).1
def SortedE (l : List (Int × Int)) : Prop := ∀ x y : Nat, x < y → y < l.length → keyAt l x < keyAt l y
/-- This is the first place whose key isn't below k. -/
def Place (l : List (Int × Int)) (k : Int) (i : Nat) : Prop := i ≤ l.length ∧ (∀ x, x < i → keyAt l x < k) ∧ (∀ x, i ≤ x → x < l.length → k ≤ keyAt l x)
set_option maxHeartbeats 2000000 in
theorem Search_calls {w : World} {A : Option Addr} {c : Nat} (l : List (Int × Int)) (k : Int) (hr : Rd w A (EV l)) (hl : l.length ≤ 100000) (hs : SortedE l) :
    Calls Try.prog 95 #[.slice A l.length c, .int .i64 k, .func (.func 96) #[] #[]] w fun e w' => ∃ (i : Nat) (b : Bool), e = .returned (.tuple #[.int .i64 i, .bool b]) ∧ Place l k i ∧ (b = true ↔ i < l.length ∧ keyAt l i = k) ∧ Ext w w' := by
  go_enter Try.func95, Try.ntmps95
  go_wp2
  go_loopw [9, 10] (fun i j wr => ∃ x y : Nat, x ≤ y ∧ y ≤ l.length ∧ i = .int .i64 x ∧ j = .int .i64 y ∧ (∀ z, z < x → keyAt l z < k) ∧ (∀ z, y ≤ z → z < l.length → k ≤ keyAt l z) ∧ Ext w wr) (fun i j _ => (intOf j - intOf i).toNat)
  case atStart => exact ⟨0, l.length, by omega, by omega, rfl, rfl, fun z hz => by omega, fun z hz hz2 => by omega, Ext.rfl'⟩
  case round =>
    obtain ⟨x, y, hxy, hyl, rfl, rfl, h1, h2, E1⟩ := hrel
    by_cases hlt : x < y
    · obtain ⟨h, hh⟩ : ∃ h : Nat, h = (x + y) / 2 := ⟨_, rfl⟩
      have hhl : h < l.length := by omega
      obtain ⟨ad, rfl, hat⟩ := EV_at (hr.ext E1) h hhl
      have hkey : keyAt l h = l[h].1 := by simp [keyAt, hhl]
      generalize l[h] = en at *
      obtain ⟨a, p⟩ := en
      simp only at hkey hat
      have HAT := hid hat
      have HI := hid sz60
      have HH := hid hh
      have hdiv : Hid (((x : Int) + y) / 2 = h) := hid (by omega)
      have HK := hid hkey
      have H1 := hid h1
      have H2 := hid h2
      have hxh : x ≤ h := by omega
      have hhy : h < y := by omega
      clear hh hat hkey h1 h2
      go_wp2_with (first
        | (refine fit (.binOp .shr 227 (.tmp 21) (.const (.int .u64 1)) 227) ?_; refine wpl_half rfl 227 (.tmp 21) 227 rfl rfl hdiv.out ?_)
        | (refine fit (.load 60 (.tmp 27)) ?_; refine wpl_do rfl (wp_loadAt 60 (.tmp 27) rfl rfl [.int .i64 a, .int .i64 p] HAT.out Try.underlying60 rfl HI.out ?_))
        | (go_at_call 96; refine (At1_calls _ _ _ _).mono ?_; rintro e w2 ⟨rfl, hE2⟩))
      · have hc : cmpI a k < 0 := by assumption
        have hak : a < k := cmp_lt hc
        refine ⟨⟨h + 1, y, by omega, hyl, by go_num, rfl, fun z hz => ?_, H2.out, E1.tr hE2⟩, by simp [intOf]; omega⟩
        have hkh := HK.out
        rcases Nat.lt_or_ge z h with hz2 | hz2
        · have := hs z h hz2 hhl; omega
        · obtain rfl : z = h := by omega
          omega
      · have hc : ¬ cmpI a k < 0 := by first | assumption | omega
        have hak : k ≤ a := cmp_ge hc
        refine ⟨⟨x, h, by omega, by omega, rfl, rfl, H1.out, fun z hz hzl => ?_, E1.tr hE2⟩, by simp [intOf]; omega⟩
        have hkh := HK.out
        rcases Nat.lt_or_ge h z with hz2 | hz2
        · have := hs h z hz2 hzl; omega
        · obtain rfl : z = h := by omega
          omega
    · obtain rfl : x = y := by omega
      have HP : Hid (Place l k x) := hid ⟨hyl, h1, h2⟩
      clear h1 h2
      by_cases hxl : x < l.length
      · obtain ⟨ad, rfl, hat⟩ := EV_at (hr.ext E1) x hxl
        have hkey : keyAt l x = l[x].1 := by simp [keyAt, hxl]
        generalize l[x] = en at *
        obtain ⟨a, p⟩ := en
        simp only at hkey hat
        have HAT := hid hat
        have HI := hid sz60
        have HK := hid hkey
        clear hat hkey
        go_wp2_with (first
          | (refine fit (.load 60 (.tmp 43)) ?_; refine wpl_do rfl (wp_loadAt 60 (.tmp 43) rfl rfl [.int .i64 a, .int .i64 p] HAT.out Try.underlying60 rfl HI.out ?_))
          | (go_at_call 96; refine (At1_calls _ _ _ _).mono ?_; rintro e w2 ⟨rfl, hE2⟩))
        refine ret2 rfl (RV.tmp rfl) (RV.tmp rfl) rfl ⟨x, _, rfl, HP.out, ?_, E1.tr hE2⟩
        have hkx := HK.out
        rw [hkx]
        simp [hxl, cmp_eq]
      · go_wp2
        refine ret2 rfl (RV.tmp rfl) (RV.tmp rfl) rfl ⟨x, false, rfl, HP.out, ?_, E1⟩
        simp [hxl]
/-- Where key k belongs. -/
def IsAt (l : List (Int × Int)) (k at_ : Int) : Prop := -1 ≤ at_ ∧ at_ < l.length ∧ (∀ x : Nat, x < l.length → (x : Int) ≤ at_ → keyAt l x ≤ k) ∧ (∀ x : Nat, x < l.length → at_ < x → k < keyAt l x)
theorem At_calls {w : World} {A : Option Addr} {c : Nat} (l : List (Int × Int)) (k : Int) (hr : Rd w A (EV l)) (hl : l.length ≤ 100000) (hs : SortedE l) :
    Calls Try.prog 41 #[.slice A l.length c, .int .i64 k] w fun e w' => ∃ at_ : Int, e = .returned (.int .i64 at_) ∧ IsAt l k at_ ∧ Ext w w' := by
  go_enter Try.func41, Try.ntmps41
  go_wp2_with (go_at_call 95; refine (Search_calls l k hr hl hs).mono ?_; rintro e w1 ⟨i, b, rfl, hP, hb, hE⟩; have HP := hid hP; have HB := hid hb; have hil : i ≤ l.length := hP.1; clear hP hb)
  all_goals go_ret
  · have hbt : b = true := by assumption
    obtain ⟨hil, hk⟩ := HB.out.1 hbt
    obtain ⟨_, h1, h2⟩ := HP.out
    refine ⟨i, rfl, ⟨by omega, by omega, fun x hx hxi => ?_, fun x hx hix => ?_⟩, hE⟩
    · rcases Nat.lt_or_ge x i with h | h
      · have := h1 x h; omega
      · obtain rfl : x = i := by omega
        omega
    · have := hs i x (by omega) hx; omega
  · have hbt : ¬ b = true := by first | assumption | simp_all
    have hnk : ¬ (i < l.length ∧ keyAt l i = k) := fun h => hbt (HB.out.2 h)
    obtain ⟨_, h1, h2⟩ := HP.out
    refine ⟨(i : Int) - 1, rfl, ⟨by omega, by omega, fun x hx hxi => ?_, fun x hx hix => ?_⟩, hE⟩
    · have := h1 x (by omega); omega
    · have h3 := h2 x (by omega) hx
      rcases Nat.lt_or_ge i x with h | h
      · have := hs i x h hx
        have := h2 i (Nat.le_refl _) (by omega)
        omega
      · obtain rfl : x = i := by omega
        have : ¬ keyAt l x = k := fun h => hnk ⟨hx, h⟩
        omega
end Go.Proofs.Ytnggcldghpmeaaa
