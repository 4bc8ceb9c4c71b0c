/- The plain law: Small. -/
import Derived.Test.YtdojfnjgipeogaaDoorLax7
import Derived.Test.YtdojfnjgipeogaaDoorNatZ
namespace Go.Proofs.YtdojfnjgipeogaaDoor
open Go.RowKit Go.Shelf Go.Proofs.YtdojfnjgipeogaaDoorW.PrintWords Go.Proofs.YtdojfnjgipeogaaDoorW.PrintMore NatB La
set_option linter.unusedSimpArgs false
set_option linter.unusedVariables false

theorem head_pure (k : Nat) : customhouselaw04_head.f (k + 1) = some true := by
  unfold customhouselaw04_head.f
  simp only [h1, h2, h3, h4, h5, h6, h7, Option.bind_some, Lib.toList_data]
  simp [customhouselaw04_head.j0, h8, h9, h10, h11, h12, Lib.toList_data]

theorem as_dec {a : ByteArray} (h : isN a) : ∃ m, ok m ∧ a = dec m := ⟨val a, ok_val h, (dec_val a h).symm⟩
theorem zl (n : Nat) : ((dec n).toList = ([48] : List UInt8)) = (n = 0) := by
  apply propext
  constructor
  · intro h
    have : dec n = dec 0 := by
      rw [dec_lit ⟨#[48]⟩ (by decide) 0 rfl]
      exact tl.1 (by rw [h, Lib.toList_data])
    exact dec_inj this
  · rintro rfl
    rw [dec_lit ⟨#[48]⟩ (by decide) 0 rfl, Lib.toList_data]
theorem ol (n : Nat) : ((dec n).toList = ([49] : List UInt8)) = (n = 1) := by
  apply propext
  constructor
  · intro h
    have : dec n = dec 1 := by
      rw [dec_lit ⟨#[49]⟩ (by decide) 1 rfl]
      exact tl.1 (by rw [h, Lib.toList_data])
    exact dec_inj this
  · rintro rfl
    rw [dec_lit ⟨#[49]⟩ (by decide) 1 rfl, Lib.toList_data]
theorem zb (n : Nat) : ((dec n).toList == ([48] : List UInt8)) = decide (n = 0) := by
  rw [Bool.eq_iff_iff, beq_iff_eq, zl, decide_eq_true_iff]
theorem gok {m n : Nat} (hm : ok m) (hn : ok n) : ok (Nat.gcd m n) := by
  rcases Nat.eq_zero_or_pos m with h | h
  · rw [h, Nat.gcd_zero_left]; exact hn
  · exact ok_le (Nat.gcd_le_left _ h) hm
theorem gcd_d {m n : Nat} (hm : ok m) (hn : ok n) : natural_Gcd.f (dec m) (dec n) = some (dec (Nat.gcd m n), 0) := by rw [gcd_f (isN_ok hm) (isN_ok hn), val_dec, val_dec]
theorem mul_d {m n : Nat} (hm : ok m) (hn : ok n) : natural_Mul.f (dec m) (dec n) = some (lim (m * n)) := by rw [mul_f (isN_ok hm) (isN_ok hn), val_dec, val_dec]
theorem add_d {m n : Nat} (hm : ok m) (hn : ok n) : natural_Add.f (dec m) (dec n) = some (lim (m + n)) := by rw [add_f (isN_ok hm) (isN_ok hn), val_dec, val_dec]
theorem div_d {m n : Nat} (hm : ok m) (hn : ok n) (h : n ≠ 0) : natural_Div.f (dec m) (dec n) = some (dec (m / n), dec (m % n), 0) := by rw [div_f (isN_ok hm) (isN_ok hn) (by rw [val_dec]; exact h), val_dec, val_dec]
theorem sub_d {m n : Nat} (hm : ok m) (hn : ok n) (h : n ≤ m) : natural_Sub.f (dec m) (dec n) = some (dec (m - n), 0) := by rw [sub_f (isN_ok hm) (isN_ok hn) (by rw [val_dec, val_dec]; exact h), val_dec, val_dec]
theorem sub_dr {m n : Nat} (hm : ok m) (hn : ok n) (h : ¬ n ≤ m) : natural_Sub.f (dec m) (dec n) = some (⟨#[]⟩, 10) := by rw [sub_r (isN_ok hm) (isN_ok hn) (by rw [val_dec, val_dec]; exact h)]
theorem cmp_d {m n : Nat} (hm : ok m) (hn : ok n) : natural_Compare.f (dec m) (dec n) = some (cmpI (m : Int) (n : Int), 0) := by rw [cmp_f (isN_ok hm) (isN_ok hn), val_dec, val_dec]

theorem ok_small {n : Nat} (h : n < 18446744073709551616) : ok n := by
  unfold ok
  have := dec_le n 19 (by omega)
  omega
theorem of_d {n : Nat} (h : n ≤ 9223372036854775807) : natural_Of.f (n : Int) = some (dec n) := by
  unfold natural_Of.f
  rw [if_pos (by omega), if_neg (by omega), Int.toNat_natCast]
theorem small_l (n m : Nat) (hn : n < 2147483648) (hm : m < 2147483648) (hm0 : m ≠ 0) : ∀ (y x k : Nat), y < k → x < 2147483648 → y < 2147483648 → Nat.gcd x y = Nat.gcd n m →
    customhouselaw04_NaturalSmall.l0 k true (n : Int) (m : Int) (dec n) (dec m) 0 (dec (n / m)) (dec (n % m)) (x : Int) (y : Int) = some true := by
  intro y
  induction y using Nat.strongRecOn with
  | _ y ih =>
    intro x k hk hx hy hg
    obtain ⟨k, rfl⟩ : ∃ j, k = j + 1 := ⟨k - 1, by omega⟩
    simp only [customhouselaw04_NaturalSmall.l0]
    by_cases h0 : y = 0
    · subst h0
      rw [Nat.gcd_zero_right] at hg
      rw [if_neg (by omega), gcd_d (ok_small (by omega)) (ok_small (by omega)), ← hg]
      have e1 : wrap64 (Int.tdiv (n : Int) (m : Int)) = ((n / m : Nat) : Int) := by
        rw [show Int.tdiv (n : Int) (m : Int) = ((n / m : Nat) : Int) from rfl]
        have : n / m ≤ n := Nat.div_le_self _ _
        generalize n / m = q at *
        exact w64 (by omega) (by omega)
      have e2 : Int.tmod (n : Int) (m : Int) = ((n % m : Nat) : Int) := rfl
      have q1 : n / m ≤ n := Nat.div_le_self _ _
      have q2 : n % m ≤ n := Nat.mod_le _ _
      rw [e1, e2, of_d (by omega), of_d (by omega), of_d (show x ≤ 9223372036854775807 by omega)]
      have e3 : ¬ (m : Int) = 0 := by omega
      simp [e3, hm0]
    · have e2 : Int.tmod (x : Int) (y : Int) = ((x % y : Nat) : Int) := rfl
      rw [if_pos (by omega), if_neg (by omega), e2]
      have hlt : x % y < y := Nat.mod_lt _ (by omega)
      refine ih (x % y) hlt y k (by omega) hy (by omega) ?_
      rw [← hg, Nat.gcd_comm x y, Nat.gcd_rec y x, Nat.gcd_comm]
theorem small1 (n m : Nat) (hn : n < 2147483648) (hm : m < 2147483648) (k : Nat) (hk : m < k) :
    customhouselaw04_NaturalSmall.j1 (k + 1) true (n : Int) (m : Int) (dec n) (dec m) false = some true := by
  simp only [customhouselaw04_NaturalSmall.j1, Bool.false_eq_true, if_false]
  by_cases h0 : m = 0
  · rw [if_pos (by omega)]
  · rw [if_neg (by omega), div_d (ok_small (by omega)) (ok_small (by omega)) h0]
    simp only [Option.bind_some]
    exact small_l n m hn hm h0 m n k hk hn hm rfl
theorem small0 (n m : Nat) (hn : n < 2147483648) (hm : m < 2147483648) (k : Nat) (hk : m < k) :
    customhouselaw04_NaturalSmall.j0 (k + 1 + 1) true (n : Int) (m : Int) (dec n) (dec m) false = some true := by
  have h1 := small1 n m hn hm k hk
  simp only [customhouselaw04_NaturalSmall.j0, Bool.false_eq_true, if_false]
  by_cases h : m ≤ n
  · have e : wrap64 ((n : Int) - (m : Int)) = ((n - m : Nat) : Int) := by rw [w64 (by omega) (by omega)]; omega
    rw [sub_d (ok_small (by omega)) (ok_small (by omega)) h, e, of_d (by omega)]
    simp only [Option.bind_some]
    rw [if_pos (by omega)]
    simp only [if_true]
    rw [if_neg (by omega)]
    exact h1
  · rw [sub_dr (ok_small (by omega)) (ok_small (by omega)) h]
    simp only [Option.bind_some]
    rw [if_neg (by omega), if_pos (by omega)]
    simpa using h1
theorem u32_range {a : Int} (h : (Lit.int .u32 a).wf = true) : 0 ≤ a ∧ a < 4294967296 := by
  simp [Lit.wf] at h
  have e1 : IntKind.u32.min = 0 := by decide
  have e2 : IntKind.u32.max = 4294967295 := by decide
  rw [e1, e2] at h
  omega
theorem NaturalSmall_pure (a b : Int) (wa : (Lit.int .u32 a).wf = true) (wb : (Lit.int .u32 b).wf = true) : ∃ k, customhouselaw04_NaturalSmall.f k a b = some true := by
  have ha : 0 ≤ a ∧ a < 4294967296 := u32_range wa
  have hb : 0 ≤ b ∧ b < 4294967296 := u32_range wb
  obtain ⟨n, hn⟩ : ∃ n : Nat, a / 2 = n := ⟨(a / 2).toNat, by omega⟩
  obtain ⟨m, hm⟩ : ∃ m : Nat, b / 2 = m := ⟨(b / 2).toNat, by omega⟩
  have hn1 : n < 2147483648 := by omega
  have hm1 : m < 2147483648 := by omega
  have h0 := small0 n m hn1 hm1 (m + 1) (by omega)
  refine ⟨m + 1 + 1 + 1, ?_⟩
  unfold customhouselaw04_NaturalSmall.f
  rw [head_pure, hn, hm, w64 (n := (n : Int)) (by omega) (by omega), w64 (n := (m : Int)) (by omega) (by omega), of_d (n := n) (by omega), of_d (n := m) (by omega)]
  simp only [Option.bind_some]
  have hnm : n * m < 4611686018427387905 := by
    have h1 : n * m ≤ 2147483647 * 2147483647 := Nat.mul_le_mul (by omega) (by omega)
    have h2 : (2147483647 * 2147483647 : Nat) = 4611686014132420609 := by decide
    rw [h2] at h1
    generalize n * m = q at *
    omega
  have o1 : ok n := ok_small (by omega)
  have o2 : ok m := ok_small (by omega)
  have o3 : ok (n + m) := ok_small (by omega)
  have o4 : ok (n * m) := ok_small (Nat.lt_trans hnm (by omega))
  have es : wrap64 ((n : Int) + (m : Int)) = ((n + m : Nat) : Int) := by rw [w64 (by omega) (by omega)]; omega
  have hq : n * m ≤ 9223372036854775807 := Nat.le_of_lt (Nat.lt_trans hnm (by omega))
  have ep : wrap64 ((n : Int) * (m : Int)) = ((n * m : Nat) : Int) := by
    rw [← Int.natCast_mul]
    generalize n * m = q at hq
    exact w64 (by omega) (by omega)
  have p1 := of_d (n := n + m) (by omega)
  have p2 := of_d hq
  have c1 : decide (cmpI (n : Int) (m : Int) < 0) = decide ((n : Int) < (m : Int)) := cmpI_neg _ _
  have c2 : decide (cmpI (n : Int) (m : Int) > 0) = decide ((n : Int) > (m : Int)) := cmpI_pos _ _
  clear hnm hq hn hm ha hb wa wb
  rw [add_d o1 o2, mul_d o1 o2, cmp_d o1 o2, lim_pos o3, lim_pos o4]
  rw [Option.bind_some, Option.bind_some, Option.bind_some]
  rw [if_pos rfl, if_pos rfl, if_pos rfl, es, ep, p1, Option.bind_some, if_pos rfl, p2, Option.bind_some, if_pos rfl, c1, c2]
  simpa using h0
end Go.Proofs.YtdojfnjgipeogaaDoor
