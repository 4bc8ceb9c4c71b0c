/- The plain law: Limits. -/
import Derived.Test.YtdojfnjgipeogaaDoorLax6
import Derived.Test.YtdojfnjgipeogaaDoorNatZ
namespace Go.Proofs.YtdojfnjgipeogaaDoor
open Go.RowKit Go.Shelf Go.Proofs.YtdojfnjgipeogaaDoorW.PrintWords Go.Proofs.YtdojfnjgipeogaaDoorW.PrintMore NatB La
set_option linter.unusedSimpArgs false
set_option linter.unusedVariables false

theorem head_pure (k : Nat) : customhouselaw04_head.f (k + 1) = some true := by
  unfold customhouselaw04_head.f
  simp only [h1, h2, h3, h4, h5, h6, h7, Option.bind_some, Lib.toList_data]
  simp [customhouselaw04_head.j0, h8, h9, h10, h11, h12, Lib.toList_data]

theorem as_dec {a : ByteArray} (h : isN a) : ∃ m, ok m ∧ a = dec m := ⟨val a, ok_val h, (dec_val a h).symm⟩
theorem zl (n : Nat) : ((dec n).toList = ([48] : List UInt8)) = (n = 0) := by
  apply propext
  constructor
  · intro h
    have : dec n = dec 0 := by
      rw [dec_lit ⟨#[48]⟩ (by decide) 0 rfl]
      exact tl.1 (by rw [h, Lib.toList_data])
    exact dec_inj this
  · rintro rfl
    rw [dec_lit ⟨#[48]⟩ (by decide) 0 rfl, Lib.toList_data]
theorem ol (n : Nat) : ((dec n).toList = ([49] : List UInt8)) = (n = 1) := by
  apply propext
  constructor
  · intro h
    have : dec n = dec 1 := by
      rw [dec_lit ⟨#[49]⟩ (by decide) 1 rfl]
      exact tl.1 (by rw [h, Lib.toList_data])
    exact dec_inj this
  · rintro rfl
    rw [dec_lit ⟨#[49]⟩ (by decide) 1 rfl, Lib.toList_data]
theorem zb (n : Nat) : ((dec n).toList == ([48] : List UInt8)) = decide (n = 0) := by
  rw [Bool.eq_iff_iff, beq_iff_eq, zl, decide_eq_true_iff]
theorem gok {m n : Nat} (hm : ok m) (hn : ok n) : ok (Nat.gcd m n) := by
  rcases Nat.eq_zero_or_pos m with h | h
  · rw [h, Nat.gcd_zero_left]; exact hn
  · exact ok_le (Nat.gcd_le_left _ h) hm
theorem gcd_d {m n : Nat} (hm : ok m) (hn : ok n) : natural_Gcd.f (dec m) (dec n) = some (dec (Nat.gcd m n), 0) := by rw [gcd_f (isN_ok hm) (isN_ok hn), val_dec, val_dec]
theorem mul_d {m n : Nat} (hm : ok m) (hn : ok n) : natural_Mul.f (dec m) (dec n) = some (lim (m * n)) := by rw [mul_f (isN_ok hm) (isN_ok hn), val_dec, val_dec]
theorem add_d {m n : Nat} (hm : ok m) (hn : ok n) : natural_Add.f (dec m) (dec n) = some (lim (m + n)) := by rw [add_f (isN_ok hm) (isN_ok hn), val_dec, val_dec]
theorem div_d {m n : Nat} (hm : ok m) (hn : ok n) (h : n ≠ 0) : natural_Div.f (dec m) (dec n) = some (dec (m / n), dec (m % n), 0) := by rw [div_f (isN_ok hm) (isN_ok hn) (by rw [val_dec]; exact h), val_dec, val_dec]
theorem sub_d {m n : Nat} (hm : ok m) (hn : ok n) (h : n ≤ m) : natural_Sub.f (dec m) (dec n) = some (dec (m - n), 0) := by rw [sub_f (isN_ok hm) (isN_ok hn) (by rw [val_dec, val_dec]; exact h), val_dec, val_dec]
theorem sub_dr {m n : Nat} (hm : ok m) (hn : ok n) (h : ¬ n ≤ m) : natural_Sub.f (dec m) (dec n) = some (⟨#[]⟩, 10) := by rw [sub_r (isN_ok hm) (isN_ok hn) (by rw [val_dec, val_dec]; exact h)]
theorem cmp_d {m n : Nat} (hm : ok m) (hn : ok n) : natural_Compare.f (dec m) (dec n) = some (cmpI (m : Int) (n : Int), 0) := by rw [cmp_f (isN_ok hm) (isN_ok hn), val_dec, val_dec]

theorem list10 (i : Nat) : Lib.decDigits (10 ^ i) = 49 :: List.replicate i 48 := by
  have h := dec_shift i 1 0 (by omega) (Nat.pow_pos (by omega))
  rw [Nat.one_mul, Nat.add_zero, pad_zero, dec_small (show (1 : Nat) < 10 by omega)] at h
  exact h
theorem size10 (i : Nat) : (dec (10 ^ i)).size = i + 1 := by
  show (Lib.decDigits (10 ^ i)).toArray.size = i + 1
  rw [list10]
  simp
theorem ok10 (i : Nat) : ok (10 ^ i) ↔ i < 300 := by
  unfold ok
  rw [size10]
  omega
theorem zeros_l (i : Nat) (hi : i ≤ 1000) : ∀ (d t k : Nat), i - t = d → t ≤ i → d < k → customhouselaw04_zeros.l0 k (i : Int) (49 :: List.replicate t 48) (t : Int) = some (dec (10 ^ i)) := by
  intro d
  induction d with
  | zero =>
    intro t k h1 h2 h3
    obtain ⟨k, rfl⟩ : ∃ j, k = j + 1 := ⟨k - 1, by omega⟩
    obtain rfl : t = i := by omega
    rw [customhouselaw04_zeros.l0, if_neg (by omega)]
    unfold dec
    rw [list10]
    unfold strOfNums
    simp
  | succ d ih =>
    intro t k h1 h2 h3
    obtain ⟨k, rfl⟩ : ∃ j, k = j + 1 := ⟨k - 1, by omega⟩
    rw [customhouselaw04_zeros.l0, if_pos (by omega), if_pos (by simp; omega)]
    have e1 : wrap64 ((t : Int) + 1) = ((t + 1 : Nat) : Int) := by rw [w64 (by omega) (by omega)]; rfl
    have e2 : (49 :: List.replicate t (48 : Int)) ++ [48] = 49 :: List.replicate (t + 1) 48 := by
      rw [List.cons_append, List.replicate_succ']
    rw [e1, e2]
    exact ih (t + 1) k (by omega) (by omega) (by omega)
theorem zeros_f (i k : Nat) (hi : i ≤ 1000) (hk : i < k) : customhouselaw04_zeros.f k (i : Int) = some (dec (10 ^ i)) :=
  zeros_l i hi i 0 k rfl (Nat.zero_le _) hk
theorem size_pred (i : Nat) : ((dec (10 ^ i - 1)).size : Int) = mx 1 (i : Int) := by
  unfold mx
  rcases Nat.eq_zero_or_pos i with h | h
  · subst h
    rw [if_neg (by omega), show (10 ^ 0 - 1 : Nat) = 0 from rfl, dec_lit ⟨#[48]⟩ (by decide) 0 rfl]
    rfl
  · have hp : 10 ^ i = 10 ^ (i - 1) * 10 := by rw [← Nat.pow_succ]; congr 1; omega
    have h0 : 0 < 10 ^ (i - 1) := Nat.pow_pos (by omega)
    have h1 := dec_le (10 ^ i - 1) (i - 1) (by rw [show i - 1 + 1 = i by omega]; omega)
    have h2 := dec_lt (10 ^ i - 1)
    have h3 : 10 ^ (i - 1) < 10 ^ (dec (10 ^ i - 1)).size := by
      refine Nat.lt_of_le_of_lt ?_ h2
      omega
    have h4 := (Nat.pow_lt_pow_iff_right (a := 10) (by omega)).1 h3
    split <;> omega
theorem lim1 (k i : Nat) (hi : i < 300) : customhouselaw04_NaturalLimits.j1 (k + 1) true (i : Int) (dec (10 ^ i)) false = some true := by
  have e1 : (⟨#[49]⟩ : ByteArray) = dec 1 := (dec_lit ⟨#[49]⟩ (by decide) 1 rfl).symm
  have h0 : 1 ≤ 10 ^ i := Nat.pow_pos (by omega)
  have o : ok (10 ^ i) := (ok10 i).2 hi
  have o1 : ok 1 := ok_le h0 o
  have o2 : ok (10 ^ i - 1) := ok_le (Nat.sub_le _ _) o
  simp only [customhouselaw04_NaturalLimits.j1, Bool.false_eq_true, if_false]
  rw [e1, sub_d o o1 h0]
  simp only [Option.bind_some]
  rw [add_d o2 o1, Nat.sub_add_cancel h0, lim_pos o]
  simp only [Option.bind_some, if_true]
  rw [size_pred]
  simp
theorem lim0 (k i j : Nat) (hi : i < 300) (hj : j < 300) (hk : i + j < k) : customhouselaw04_NaturalLimits.j0 (k + 1 + 1) true (i : Int) (j : Int) (dec (10 ^ i)) (dec (10 ^ j)) false = some true := by
  have h1 := lim1 k i hi
  have e : wrap64 ((i : Int) + (j : Int)) = ((i + j : Nat) : Int) := by rw [w64 (by omega) (by omega)]; rfl
  simp only [customhouselaw04_NaturalLimits.j0, Bool.false_eq_true, if_false]
  rw [mul_d ((ok10 i).2 hi) ((ok10 j).2 hj), ← Nat.pow_add, e]
  simp only [Option.bind_some]
  by_cases h : i + j < 300
  · rw [if_neg (by omega), if_pos (by omega), lim_pos ((ok10 _).2 h), if_pos rfl, zeros_f (i + j) (k + 1) (by omega) (by omega)]
    simp only [Option.bind_some, bne_self_eq_false]
    exact h1
  · rw [if_pos (by omega), lim_neg (fun o => h ((ok10 _).1 o)), if_pos rfl, if_pos (by rw [Lib.toList_data]), if_neg (by omega)]
    exact h1
theorem u16_range {a : Int} (h : (Lit.int .u16 a).wf = true) : 0 ≤ a ∧ a < 65536 := by
  simp [Lit.wf] at h
  have e1 : IntKind.u16.min = 0 := by decide
  have e2 : IntKind.u16.max = 65535 := by decide
  rw [e1, e2] at h
  omega
theorem mod_n {a : Int} (h : 0 ≤ a ∧ a < 65536) : ∃ i : Nat, i ≤ 320 ∧ Int.tmod (wrap64 a) 321 = (i : Int) := by
  refine ⟨(a % 321).toNat, by omega, ?_⟩
  rw [w64 (by omega) (by omega), Int.tmod_eq_emod_of_nonneg (by omega)]
  omega
theorem NaturalLimits_pure (a b : Int) (wa : (Lit.int .u16 a).wf = true) (wb : (Lit.int .u16 b).wf = true) : ∃ k, customhouselaw04_NaturalLimits.f k a b = some true := by
  obtain ⟨i, hi, ei⟩ := mod_n (u16_range wa)
  obtain ⟨j, hj, ej⟩ := mod_n (u16_range wb)
  obtain ⟨K, hK⟩ : ∃ K, K = 1000 := ⟨_, rfl⟩
  refine ⟨K + 1 + 1, ?_⟩
  unfold customhouselaw04_NaturalLimits.f
  rw [head_pure, ei, ej, Option.bind_some, zeros_f i (K + 1 + 1) (by omega) (by omega), Option.bind_some, zeros_f j (K + 1 + 1) (by omega) (by omega), Option.bind_some]
  have ed : natural_Is.f (dec (10 ^ i)) = some (decide ((i : Int) < 300)) := by
    unfold natural_Is.f
    have e : decide (isN (dec (10 ^ i))) = decide ((i : Int) < 300) := by
      rw [Bool.eq_iff_iff, decide_eq_true_iff, decide_eq_true_iff, isN_dec, size10]
      omega
    rw [e]
  rw [ed, Option.bind_some, bne_self_eq_false, if_neg (by simp)]
  by_cases h : i < 300
  · rw [if_neg (by omega)]
    by_cases g : j < 300
    · have hd : decide ((j : Int) ≥ 300) = false := decide_eq_false (by omega)
      rw [hd]
      exact lim0 K i j h g (by omega)
    · have hd : decide ((j : Int) ≥ 300) = true := decide_eq_true (by omega)
      rw [hd]
      simp only [customhouselaw04_NaturalLimits.j0, if_true]
  · have hd : (i : Int) ≥ 300 := by omega
    rw [if_pos hd]
    simp only [customhouselaw04_NaturalLimits.j0, if_true]
end Go.Proofs.YtdojfnjgipeogaaDoor
