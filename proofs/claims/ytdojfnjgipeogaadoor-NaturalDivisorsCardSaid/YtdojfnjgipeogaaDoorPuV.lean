/- The plain law: Divisors. -/
import Derived.Test.YtdojfnjgipeogaaDoorLax2
import Derived.Test.YtdojfnjgipeogaaDoorNatZ
namespace Go.Proofs.YtdojfnjgipeogaaDoor
open Go.RowKit Go.Shelf Go.Proofs.YtdojfnjgipeogaaDoorW.PrintWords Go.Proofs.YtdojfnjgipeogaaDoorW.PrintMore NatB La
set_option linter.unusedSimpArgs false
set_option linter.unusedVariables false

theorem head_pure (k : Nat) : customhouselaw04_head.f (k + 1) = some true := by
  unfold customhouselaw04_head.f
  simp only [h1, h2, h3, h4, h5, h6, h7, Option.bind_some, Lib.toList_data]
  simp [customhouselaw04_head.j0, h8, h9, h10, h11, h12, Lib.toList_data]

theorem as_dec {a : ByteArray} (h : isN a) : ∃ m, ok m ∧ a = dec m := ⟨val a, ok_val h, (dec_val a h).symm⟩
theorem zl (n : Nat) : ((dec n).toList = ([48] : List UInt8)) = (n = 0) := by
  apply propext
  constructor
  · intro h
    have : dec n = dec 0 := by
      rw [dec_lit ⟨#[48]⟩ (by decide) 0 rfl]
      exact tl.1 (by rw [h, Lib.toList_data])
    exact dec_inj this
  · rintro rfl
    rw [dec_lit ⟨#[48]⟩ (by decide) 0 rfl, Lib.toList_data]
theorem ol (n : Nat) : ((dec n).toList = ([49] : List UInt8)) = (n = 1) := by
  apply propext
  constructor
  · intro h
    have : dec n = dec 1 := by
      rw [dec_lit ⟨#[49]⟩ (by decide) 1 rfl]
      exact tl.1 (by rw [h, Lib.toList_data])
    exact dec_inj this
  · rintro rfl
    rw [dec_lit ⟨#[49]⟩ (by decide) 1 rfl, Lib.toList_data]
theorem zb (n : Nat) : ((dec n).toList == ([48] : List UInt8)) = decide (n = 0) := by
  rw [Bool.eq_iff_iff, beq_iff_eq, zl, decide_eq_true_iff]
theorem gok {m n : Nat} (hm : ok m) (hn : ok n) : ok (Nat.gcd m n) := by
  rcases Nat.eq_zero_or_pos m with h | h
  · rw [h, Nat.gcd_zero_left]; exact hn
  · exact ok_le (Nat.gcd_le_left _ h) hm
theorem gcd_d {m n : Nat} (hm : ok m) (hn : ok n) : natural_Gcd.f (dec m) (dec n) = some (dec (Nat.gcd m n), 0) := by rw [gcd_f (isN_ok hm) (isN_ok hn), val_dec, val_dec]
theorem mul_d {m n : Nat} (hm : ok m) (hn : ok n) : natural_Mul.f (dec m) (dec n) = some (lim (m * n)) := by rw [mul_f (isN_ok hm) (isN_ok hn), val_dec, val_dec]
theorem add_d {m n : Nat} (hm : ok m) (hn : ok n) : natural_Add.f (dec m) (dec n) = some (lim (m + n)) := by rw [add_f (isN_ok hm) (isN_ok hn), val_dec, val_dec]
theorem div_d {m n : Nat} (hm : ok m) (hn : ok n) (h : n ≠ 0) : natural_Div.f (dec m) (dec n) = some (dec (m / n), dec (m % n), 0) := by rw [div_f (isN_ok hm) (isN_ok hn) (by rw [val_dec]; exact h), val_dec, val_dec]
theorem sub_d {m n : Nat} (hm : ok m) (hn : ok n) (h : n ≤ m) : natural_Sub.f (dec m) (dec n) = some (dec (m - n), 0) := by rw [sub_f (isN_ok hm) (isN_ok hn) (by rw [val_dec, val_dec]; exact h), val_dec, val_dec]
theorem sub_dr {m n : Nat} (hm : ok m) (hn : ok n) (h : ¬ n ≤ m) : natural_Sub.f (dec m) (dec n) = some (⟨#[]⟩, 10) := by rw [sub_r (isN_ok hm) (isN_ok hn) (by rw [val_dec, val_dec]; exact h)]
theorem cmp_d {m n : Nat} (hm : ok m) (hn : ok n) : natural_Compare.f (dec m) (dec n) = some (cmpI (m : Int) (n : Int), 0) := by rw [cmp_f (isN_ok hm) (isN_ok hn), val_dec, val_dec]

theorem div3 (k m n p : Nat) (hm : ok m) (hn : ok n) (hp : ok p) (h1 : ok (m * p)) (h2 : ok (n * p)) :
    customhouselaw04_NaturalDivisors.j3 (k + 1) (dec p) true (dec (Nat.gcd m n)) (dec (m * p)) (dec (n * p)) false = some true := by
  simp only [customhouselaw04_NaturalDivisors.j3, Bool.false_eq_true, if_false]
  have e : Nat.gcd m n * p = Nat.gcd (m * p) (n * p) := (Nat.gcd_mul_right m p n).symm
  rw [gcd_d h1 h2, mul_d (gok hm hn) hp, e, lim_pos (gok h1 h2)]
  simp
theorem div2 (k m n p : Nat) (hm : ok m) (hn : ok n) (hp : ok p) : customhouselaw04_NaturalDivisors.j2 (k + 1 + 1) (dec m) (dec n) (dec p) true (dec (Nat.gcd m n)) = some true := by
  simp only [customhouselaw04_NaturalDivisors.j2]
  rw [mul_d hm hp, mul_d hn hp]
  simp only [Option.bind_some]
  by_cases h1 : ok (m * p)
  · by_cases h2 : ok (n * p)
    · have := div3 k m n p hm hn hp h1 h2
      simpa [lim_pos h1, lim_pos h2] using this
    · simp [lim_pos h1, lim_neg h2, customhouselaw04_NaturalDivisors.j3]
  · simp [lim_neg h1, customhouselaw04_NaturalDivisors.j3]
theorem div1 (k m n p : Nat) (hm : ok m) (hn : ok n) (hp : ok p) : customhouselaw04_NaturalDivisors.j1 (k + 1 + 1 + 1) (dec m) (dec n) (dec p) true (dec (Nat.gcd m n)) false = some true := by
  have h2 := div2 k m n p hm hn hp
  simp only [customhouselaw04_NaturalDivisors.j1, Bool.false_eq_true, if_false, zl]
  by_cases hg : Nat.gcd m n = 0
  · rw [if_pos hg]; exact h2
  · rw [if_neg hg, div_d hm (gok hm hn) hg, div_d hn (gok hm hn) hg]
    simp only [Option.bind_some]
    rw [gcd_d (ok_le (Nat.div_le_self _ _) hm) (ok_le (Nat.div_le_self _ _) hn), Nat.mod_eq_zero_of_dvd (Nat.gcd_dvd_left m n), Nat.mod_eq_zero_of_dvd (Nat.gcd_dvd_right m n),
      Nat.gcd_div (Nat.gcd_dvd_left m n) (Nat.gcd_dvd_right m n), Nat.div_self (by omega)]
    simp only [Option.bind_some, zl, ol, if_true, h2]
theorem NaturalDivisors_pure (a b c : ByteArray) : ∃ k, customhouselaw04_NaturalDivisors.f k a b c = some true := by
  refine ⟨0 + 1 + 1 + 1 + 1, ?_⟩
  unfold customhouselaw04_NaturalDivisors.f
  rw [head_pure, Option.bind_some]
  by_cases ha : isN a
  · by_cases hb : isN b
    · by_cases hc : isN c
      · simp only [is_t ha, is_t hb, is_t hc, Option.bind_some, if_true, Bool.not_true]
        obtain ⟨m, hm, rfl⟩ := as_dec ha
        obtain ⟨n, hn, rfl⟩ := as_dec hb
        obtain ⟨p, hp, rfl⟩ := as_dec hc
        have h1 := div1 0 m n p hm hn hp
        simp only [customhouselaw04_NaturalDivisors.j0, Bool.false_eq_true, if_false]
        rw [gcd_d hm hn, gcd_d hn hm, Nat.gcd_comm n m]
        simp only [Option.bind_some, if_true, zl, zb]
        by_cases hm0 : m = 0
        · subst hm0
          rw [Nat.gcd_zero_left] at h1 ⊢
          simpa using h1
        · have : ¬ Nat.gcd m n = 0 := fun h => hm0 (Nat.gcd_eq_zero_iff.1 h).1
          simpa [hm0, this] using h1
      · simp [is_t ha, is_t hb, is_n hc, customhouselaw04_NaturalDivisors.j0]
    · simp [is_t ha, is_n hb, customhouselaw04_NaturalDivisors.j0]
  · simp [is_n ha, customhouselaw04_NaturalDivisors.j0]
end Go.Proofs.YtdojfnjgipeogaaDoor
