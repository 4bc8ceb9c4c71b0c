/- The plain laws' common ground: what the functions answer where both texts are numbers. -/
import Derived.Test.YtdojfnjgipeogaaGreatDoorNatY
import Derived.Test.YtdojfnjgipeogaaGreatDoorLbx5
namespace Go.Proofs.YtdojfnjgipeogaaGreatDoor
open Go.RowKit Go.Shelf Go.Proofs.YtdojfnjgipeogaaGreatDoorW.PrintWords Go.Proofs.YtdojfnjgipeogaaGreatDoorW.PrintMore NatB

def ok (n : Nat) : Prop := (dec n).size ≤ 300
instance (n : Nat) : Decidable (ok n) := inferInstanceAs (Decidable (_ ≤ _))
theorem lim_pos {n : Nat} (h : ok n) : lim n = (dec n, 0) := by unfold lim; rw [if_neg (by unfold ok at h; omega)]
theorem lim_neg {n : Nat} (h : ¬ ok n) : lim n = (⟨#[]⟩, 2) := by unfold lim; rw [if_pos (by unfold ok at h; omega)]
theorem isN_ok {n : Nat} (h : ok n) : isN (dec n) := (isN_dec n).2 h
theorem ok_val {s : ByteArray} (h : isN s) : ok (val s) := by unfold ok; rw [dec_val s h]; exact h.2.1
theorem ok_le {n m : Nat} (h : n ≤ m) (hm : ok m) : ok n := by
  unfold ok at *
  have h1 := dec_lt m
  have h2 : n < 10 ^ ((dec m).size - 1 + 1) := by
    rcases Nat.eq_zero_or_pos (dec m).size with h0 | h0
    · rw [h0] at h1
      refine Nat.lt_of_le_of_lt h (Nat.lt_of_lt_of_le h1 (Nat.pow_le_pow_right (by omega) (by omega)))
    · rw [show (dec m).size - 1 + 1 = (dec m).size by omega]
      exact Nat.lt_of_le_of_lt h h1
  have h3 := dec_le n _ h2
  omega
theorem nil_not : ¬ isN ⟨#[]⟩ := fun h => h.1 rfl
theorem is_t {s : ByteArray} (h : isN s) : natural_Is.f s = some true := by unfold natural_Is.f; rw [decide_eq_true h]
theorem is_n {s : ByteArray} (h : ¬ isN s) : natural_Is.f s = some false := by unfold natural_Is.f; rw [decide_eq_false h]
theorem add_f {a b : ByteArray} (ha : isN a) (hb : isN b) : natural_Add.f a b = some (lim (val a + val b)) := by unfold natural_Add.f; rw [if_pos ⟨ha, hb⟩]
theorem mul_f {a b : ByteArray} (ha : isN a) (hb : isN b) : natural_Mul.f a b = some (lim (val a * val b)) := by unfold natural_Mul.f; rw [if_pos ⟨ha, hb⟩]
theorem gcd_f {a b : ByteArray} (ha : isN a) (hb : isN b) : natural_Gcd.f a b = some (dec (Nat.gcd (val a) (val b)), 0) := by
  unfold natural_Gcd.f
  rw [if_pos ⟨ha, hb⟩, lim_pos]
  rcases Nat.eq_zero_or_pos (val a) with h | h
  · rw [h, Nat.gcd_zero_left]; exact ok_val hb
  · exact ok_le (Nat.gcd_le_left _ h) (ok_val ha)
theorem sub_f {a b : ByteArray} (ha : isN a) (hb : isN b) (h : val b ≤ val a) : natural_Sub.f a b = some (dec (val a - val b), 0) := by
  unfold natural_Sub.f; rw [if_pos ⟨ha, hb⟩, if_pos h, lim_pos (ok_le (Nat.sub_le _ _) (ok_val ha))]
theorem sub_r {a b : ByteArray} (ha : isN a) (hb : isN b) (h : ¬ val b ≤ val a) : natural_Sub.f a b = some (⟨#[]⟩, 10) := by
  unfold natural_Sub.f; rw [if_pos ⟨ha, hb⟩, if_neg h]
theorem div_f {a b : ByteArray} (ha : isN a) (hb : isN b) (h : val b ≠ 0) : natural_Div.f a b = some (dec (val a / val b), dec (val a % val b), 0) := by
  unfold natural_Div.f
  rw [if_pos ⟨ha, hb⟩, if_neg h, lim_pos (ok_le (Nat.div_le_self _ _) (ok_val ha)), lim_pos (ok_le (Nat.mod_le _ _) (ok_val ha))]
theorem div_z {a b : ByteArray} (ha : isN a) (hb : isN b) (h : val b = 0) : natural_Div.f a b = some (⟨#[]⟩, ⟨#[]⟩, 15) := by
  unfold natural_Div.f; rw [if_pos ⟨ha, hb⟩, if_pos h]
theorem cmp_f {a b : ByteArray} (ha : isN a) (hb : isN b) : natural_Compare.f a b = some (cmpI (val a : Int) (val b : Int), 0) := by unfold natural_Compare.f; rw [if_pos ⟨ha, hb⟩]
theorem add_n {a b : ByteArray} (h : ¬ (isN a ∧ isN b)) : natural_Add.f a b = some (⟨#[]⟩, 1) := by unfold natural_Add.f; rw [if_neg h]; rfl
theorem mul_n {a b : ByteArray} (h : ¬ (isN a ∧ isN b)) : natural_Mul.f a b = some (⟨#[]⟩, 1) := by unfold natural_Mul.f; rw [if_neg h]; rfl
theorem sub_n {a b : ByteArray} (h : ¬ (isN a ∧ isN b)) : natural_Sub.f a b = some (⟨#[]⟩, 1) := by unfold natural_Sub.f; rw [if_neg h]; rfl
theorem gcd_n {a b : ByteArray} (h : ¬ (isN a ∧ isN b)) : natural_Gcd.f a b = some (⟨#[]⟩, 1) := by unfold natural_Gcd.f; rw [if_neg h]; rfl
theorem cmp_n {a b : ByteArray} (h : ¬ (isN a ∧ isN b)) : natural_Compare.f a b = some (0, 1) := by unfold natural_Compare.f; rw [if_neg h]
theorem div_n {a b : ByteArray} (h : ¬ (isN a ∧ isN b)) : natural_Div.f a b = some (⟨#[]⟩, ⟨#[]⟩, 1) := by unfold natural_Div.f; rw [if_neg h]
/-- A numeral that is written out. -/
theorem dec_lit (s : ByteArray) (h : isN s) (n : Nat) (hn : val s = n) : dec n = s := by rw [← hn]; exact dec_val s h
theorem tl {a b : ByteArray} : a.toList = b.toList ↔ a = b := by
  rw [Lib.toList_data, Lib.toList_data]
  constructor
  · intro h
    obtain ⟨⟨l⟩⟩ := a
    obtain ⟨⟨m⟩⟩ := b
    simp only at h
    rw [h]
  · rintro rfl; rfl

/-! The examples. -/
theorem h1 : natural_Mul.f ⟨#[49, 50]⟩ ⟨#[49, 50]⟩ = some (⟨#[49, 52, 52]⟩, 0) := by
  rw [mul_f (by decide) (by decide), show val ⟨#[49, 50]⟩ * val ⟨#[49, 50]⟩ = val ⟨#[49, 52, 52]⟩ from rfl, lim_pos (ok_val (by decide)), dec_val _ (by decide)]
theorem h2 : natural_Sub.f ⟨#[53]⟩ ⟨#[55]⟩ = some (⟨#[]⟩, 10) := sub_r (by decide) (by decide) (by decide)
theorem h3 : natural_Div.f ⟨#[49, 48, 48]⟩ ⟨#[55]⟩ = some (⟨#[49, 52]⟩, ⟨#[50]⟩, 0) := by
  rw [div_f (by decide) (by decide) (by decide), dec_lit ⟨#[49, 52]⟩ (by decide) (val ⟨#[49, 48, 48]⟩ / val ⟨#[55]⟩) rfl, dec_lit ⟨#[50]⟩ (by decide) (val ⟨#[49, 48, 48]⟩ % val ⟨#[55]⟩) rfl]
theorem h4 : natural_Div.f ⟨#[55]⟩ ⟨#[48]⟩ = some (⟨#[]⟩, ⟨#[]⟩, 15) := div_z (by decide) (by decide) rfl
theorem h5 : natural_Gcd.f ⟨#[49, 50]⟩ ⟨#[49, 56]⟩ = some (⟨#[54]⟩, 0) := by
  rw [gcd_f (by decide) (by decide), dec_lit ⟨#[54]⟩ (by decide) _ (by decide)]
theorem h6 : natural_Gcd.f ⟨#[48]⟩ ⟨#[48]⟩ = some (⟨#[48]⟩, 0) := by
  rw [gcd_f (by decide) (by decide), dec_lit ⟨#[48]⟩ (by decide) _ (by decide)]
theorem h7 : natural_Int.f ⟨#[57, 50, 50, 51, 51, 55, 50, 48, 51, 54, 56, 53, 52, 55, 55, 53, 56, 48, 56]⟩ = some (0, 10) := by
  unfold natural_Int.f
  rw [if_pos (by decide), if_neg (by decide)]
theorem h8 : natural_Of.f (-1) = some ⟨#[]⟩ := rfl
theorem h9 : natural_Is.f ⟨#[48]⟩ = some true := is_t (by decide)
theorem h10 : natural_Is.f ⟨#[48, 48]⟩ = some false := is_n (by decide)
theorem h11 : natural_Is.f ⟨#[]⟩ = some false := is_n (by decide)
theorem h12 : natural_Is.f ⟨#[49, 50]⟩ = some true := is_t (by decide)
end Go.Proofs.YtdojfnjgipeogaaGreatDoor
/- The reference's functions over digits, as plain laws: number, Is, Order, Decimal, digit, trim, value. -/
namespace Go.Proofs.YtdojfnjgipeogaaGreatDoor
open Go.RowKit Go.Shelf Go.Proofs.YtdojfnjgipeogaaGreatDoorW.PrintWords Go.Proofs.YtdojfnjgipeogaaGreatDoorW.PrintMore NatB Lb
set_option linter.unusedSimpArgs false
set_option linter.unusedVariables false

/-- A text of digits, of any length. -/
def digs (s : ByteArray) : Prop := ∀ c ∈ s.data.toList, dig c
/-- A natural number of any length. -/
def isD (s : ByteArray) : Prop := s.size ≠ 0 ∧ digs s ∧ (s.size = 1 ∨ s.data.toList.head? ≠ some 48)
theorem isD_of {s : ByteArray} (h : isN s) : isD s := ⟨h.1, h.2.2.1, h.2.2.2⟩
theorem sz (s : ByteArray) : s.data.toList.length = s.size := (Lib.size_eq s).symm
theorem dec_of_list (s : ByteArray) (l : List UInt8) (hs : s.data.toList = l) (hd : ∀ c ∈ l, dig c) (h0 : l ≠ []) (hh : l.length = 1 ∨ l.head? ≠ some 48) : s = dec (dval l) := by
  unfold dec
  rw [dec_dval l hd h0 hh, ← hs]
theorem dec_D (s : ByteArray) (h : isD s) : dec (val s) = s :=
  (dec_of_list s s.data.toList rfl h.2.1 (fun e => h.1 (by rw [← sz, e]; rfl)) (by rw [sz]; exact h.2.2)).symm
theorem D_dec (n : Nat) : isD (dec n) := by
  refine ⟨?_, ?_, ?_⟩
  · rw [dec_size]
    have := Lib.decDigits_length n
    intro h
    rw [h] at this
    have h2 := dval_dec n
    have h3 : Lib.decDigits n = [] := List.eq_nil_of_length_eq_zero this
    by_cases hn : n = 0
    · subst hn; rw [dec_small (by omega)] at h3; cases h3
    · rw [h3] at h2; exact hn h2.symm
  · exact dig_dec n
  · by_cases hn : n = 0
    · subst hn; left; unfold dec; rw [dec_small (by omega)]; rfl
    · right; exact dec_head n hn
theorem val_ltD (s : ByteArray) (h : digs s) : val s < 10 ^ s.size := by
  have := dval_lt h
  rw [sz] at this
  exact this
theorem bt_get (s : ByteArray) (i : Nat) (h : i < s.data.toList.length) : bt s (i : Int) = ((s.data.toList[i]'h).toNat : Int) := by
  have h' : i < s.size := by rw [← sz]; exact h
  unfold bt
  rw [dif_pos (by simpa using h')]
  rfl
theorem dval_cons (c : UInt8) (l : List UInt8) : dval (c :: l) = (c.toNat - 48) * 10 ^ l.length + dval l := by
  have := dval_append [c] l
  rwa [dval_one] at this

/-! number, Is -/
theorem number_l (s : ByteArray) (hs : s.size ≤ 1000) : ∀ (d k i : Nat), s.size - i = d → i ≤ s.size → d < k →
    customhouseref04_number.l0 k s (i : Int) = some (decide ((∀ c ∈ s.data.toList.drop i, dig c) ∧ (s.size = 1 ∨ (s.size > 1 ∧ bt s 0 ≠ 48)))) := by
  intro d
  induction d with
  | zero =>
    intro k i h1 h2 h3
    obtain ⟨k, rfl⟩ : ∃ j, k = j + 1 := ⟨k - 1, by omega⟩
    rw [customhouseref04_number.l0, if_neg (by omega)]
    have hd : s.data.toList.drop i = [] := List.drop_eq_nil_of_le (by rw [sz]; omega)
    rw [hd]
    by_cases a : s.size = 1
    · rw [if_pos (by omega)]; simp [a]
    · rw [if_neg (by omega)]
      by_cases b : s.size > 1
      · rw [if_pos (by omega), if_pos (by omega)]
        simp [a, b]
        by_cases c : bt s 0 = 48 <;> simp [c]
      · rw [if_neg (by omega)]; simp [a, b]
  | succ d ih =>
    intro k i h1 h2 h3
    obtain ⟨k, rfl⟩ : ∃ j, k = j + 1 := ⟨k - 1, by omega⟩
    have hi : i < s.data.toList.length := by rw [sz]; omega
    rw [customhouseref04_number.l0, if_pos (by omega), if_pos (by omega), bt_get s i hi, List.drop_eq_getElem_cons hi]
    generalize s.data.toList[i] = c
    have e1 : wrap64 ((i : Int) + 1) = ((i + 1 : Nat) : Int) := by rw [w64 (by omega) (by omega)]; omega
    by_cases a : (c.toNat : Int) < 48
    · rw [if_pos a]
      have : ¬ dig c := fun h => by unfold dig at h; omega
      simp [this]
    · rw [if_neg a]
      by_cases b : (c.toNat : Int) > 57
      · rw [if_pos b]
        have : ¬ dig c := fun h => by unfold dig at h; omega
        simp [this]
      · rw [if_neg b, e1, ih k (i + 1) (by omega) (by omega) (by omega)]
        have : dig c := by unfold dig; omega
        simp [this]
theorem head_bt (s : ByteArray) (h : s.size ≠ 0) : (s.data.toList.head? ≠ some 48) ↔ bt s 0 ≠ 48 := by
  have h0 : 0 < s.data.toList.length := by rw [sz]; omega
  rw [show (0 : Int) = ((0 : Nat) : Int) from rfl, bt_get s 0 h0]
  rw [List.head?_eq_getElem?, List.getElem?_eq_getElem h0]
  simp only [ne_eq, Option.some.injEq]
  rw [show (48 : UInt8) = UInt8.ofNat 48 from rfl]
  constructor
  · intro h e; exact h (UInt8.toNat_inj.1 (by show (s.data.toList[0]'h0).toNat = 48; omega))
  · intro h e; exact h (by rw [e]; rfl)
theorem ref_Is (k : Nat) (s : ByteArray) (hk : 301 < k) : customhouseref04_Is.f k s = some (decide (isN s)) := by
  unfold customhouseref04_Is.f
  by_cases h : s.size ≤ 300
  · rw [if_pos (by omega)]
    unfold customhouseref04_number.f
    rw [show (0 : Int) = ((0 : Nat) : Int) from rfl, number_l s (by omega) s.size k 0 (by omega) (by omega) (by omega), Option.bind_some, List.drop_zero]
    refine congrArg some (decide_eq_decide.2 ?_)
    unfold isN
    constructor
    · rintro ⟨a, b | ⟨b, c⟩⟩
      · exact ⟨by omega, h, a, .inl b⟩
      · exact ⟨by omega, h, a, .inr ((head_bt s (by omega)).2 c)⟩
    · rintro ⟨a, _, b, c | c⟩
      · exact ⟨b, .inl c⟩
      · by_cases e : s.size = 1
        · exact ⟨b, .inl e⟩
        · exact ⟨b, .inr ⟨by omega, (head_bt s a).1 c⟩⟩
  · rw [if_neg (by omega)]
    refine congrArg some (decide_eq_false (fun hn => h hn.2.1)).symm

/-! Order -/
theorem less_dval : ∀ (l m : List UInt8), l.length = m.length → (∀ c ∈ l, dig c) → (∀ c ∈ m, dig c) → Op.bytesLess l m = decide (dval l < dval m)
  | [], [], _, _, _ => by simp [Op.bytesLess, dval]
  | a :: l, b :: m, h, hl, hm => by
    have e : l.length = m.length := by simpa using h
    have ih := less_dval l m e (fun c x => hl c (List.mem_cons_of_mem _ x)) (fun c x => hm c (List.mem_cons_of_mem _ x))
    rw [Op.bytesLess, ih, dval_cons, dval_cons, e]
    have h1 := dval_lt (fun c x => hl c (List.mem_cons_of_mem _ x))
    have h2 := dval_lt (fun c x => hm c (List.mem_cons_of_mem _ x))
    rw [e] at h1
    have ha := hl a List.mem_cons_self
    have hb := hm b List.mem_cons_self
    unfold dig at ha hb
    generalize 10 ^ m.length = P at *
    rcases Nat.lt_trichotomy a.toNat b.toNat with c | c | c
    · have : a < b := UInt8.lt_iff_toNat_lt.2 c
      have h3 : (a.toNat - 48 + 1) * P ≤ (b.toNat - 48) * P := Nat.mul_le_mul_right _ (by omega)
      rw [Nat.add_mul] at h3
      have h4 : (a.toNat - 48) * P + dval l < (b.toNat - 48) * P + dval m := by omega
      rw [decide_eq_true this, decide_eq_true h4, Bool.true_or]
    · have : a = b := UInt8.toNat_inj.1 c
      subst this
      have : ¬ a < a := fun h => by have := UInt8.lt_iff_toNat_lt.1 h; omega
      rw [decide_eq_false this]
      simp
    · have : ¬ a < b := fun h => by have := UInt8.lt_iff_toNat_lt.1 h; omega
      have h4 : ¬ a = b := fun h => by rw [h] at c; omega
      have h3 : (b.toNat - 48 + 1) * P ≤ (a.toNat - 48) * P := Nat.mul_le_mul_right _ (by omega)
      rw [Nat.add_mul] at h3
      have h5 : ¬ ((a.toNat - 48) * P + dval l < (b.toNat - 48) * P + dval m) := by omega
      rw [decide_eq_false this, decide_eq_false h5]
      simp [h4]
theorem ref_Order (k : Nat) (a b : ByteArray) (ha : isD a) (hb : isD b) (hk : 0 < k) : customhouseref04_Order.f k a b = some (cmpI (val a : Int) (val b : Int)) := by
  obtain ⟨k, rfl⟩ : ∃ j, k = j + 1 := ⟨k - 1, by omega⟩
  have da := dec_D a ha
  have db := dec_D b hb
  have lt_of : ∀ x y : ByteArray, isD x → isD y → x.size < y.size → val x < val y := fun x y hx hy h => by
    refine Nat.lt_of_not_le fun hle => ?_
    have h1 := Nat.lt_of_le_of_lt hle (val_ltD x hx.2.1)
    have hx0 := hx.1
    rw [show x.size = x.size - 1 + 1 by omega] at h1
    have h2 := dec_le _ _ h1
    rw [dec_D y hy] at h2
    omega
  unfold customhouseref04_Order.f
  by_cases h : a.size < b.size
  · rw [if_pos (by omega), customhouseref04_Order.j0, if_pos rfl]
    have := lt_of a b ha hb h
    unfold cmpI
    rw [if_pos (by omega)]
  · rw [if_neg (by omega)]
    by_cases e : a.size = b.size
    · rw [if_pos (by omega), customhouseref04_Order.j0, Lib.toList_data, Lib.toList_data, less_dval _ _ (by rw [sz, sz, e]) ha.2.1 hb.2.1]
      change (if decide (val a < val b) = true then _ else _) = _
      by_cases c : val a < val b
      · rw [if_pos (decide_eq_true c)]
        unfold cmpI
        rw [if_pos (by omega)]
      · rw [if_neg (by simpa using c)]
        by_cases f : val a = val b
        · have : a = b := by rw [← da, ← db, f]
          rw [if_pos (by rw [this])]
          unfold cmpI
          rw [if_neg (by omega), if_neg (by omega)]
        · rw [if_neg (fun g => f (by unfold val; rw [g]))]
          unfold cmpI
          rw [if_neg (by omega), if_pos (by omega)]
    · rw [if_neg (by omega), customhouseref04_Order.j0, if_neg (by simp)]
      have := lt_of b a hb ha (by omega)
      rw [if_neg (fun g => by rw [Lib.toList_data, Lib.toList_data] at g; exact e (by rw [← sz, ← sz, g]))]
      unfold cmpI
      rw [if_neg (by omega), if_pos (by omega)]

/-! Decimal -/
theorem u64w {n : Int} (h0 : 0 ≤ n) (h1 : n < 18446744073709551616) : IntKind.u64.wrap n = n := by
  have e : IntKind.u64.wrap n = n % 18446744073709551616 := by rfl
  rw [e]; omega
theorem one_digit (d : Nat) (h : d < 10) : (⟨#[48, 49, 50, 51, 52, 53, 54, 55, 56, 57]⟩ : ByteArray).extract d (d + 1) = ⟨#[UInt8.ofNat (48 + d)]⟩ := by
  rcases (by omega : d = 0 ∨ d = 1 ∨ d = 2 ∨ d = 3 ∨ d = 4 ∨ d = 5 ∨ d = 6 ∨ d = 7 ∨ d = 8 ∨ d = 9) with rfl | rfl | rfl | rfl | rfl | rfl | rfl | rfl | rfl | rfl <;> decide
theorem extr (n : Nat) (hn : n < 18446744073709551616) : 0 ≤ Int.tmod (n : Int) 10 ∧ Int.tmod (n : Int) 10 ≤ IntKind.u64.wrap (Int.tmod (n : Int) 10 + 1) ∧ IntKind.u64.wrap (Int.tmod (n : Int) 10 + 1) ≤ 10 ∧
    (⟨#[48, 49, 50, 51, 52, 53, 54, 55, 56, 57]⟩ : ByteArray).extract (Int.tmod (n : Int) 10).toNat (IntKind.u64.wrap (Int.tmod (n : Int) 10 + 1)).toNat = ⟨#[UInt8.ofNat (48 + n % 10)]⟩ ∧ IntKind.u64.wrap (Int.tdiv (n : Int) 10) = ((n / 10 : Nat) : Int) := by
  have e : Int.tmod (n : Int) 10 = ((n % 10 : Nat) : Int) := by rw [Int.tmod_eq_emod_of_nonneg (by omega)]; omega
  have f : Int.tdiv (n : Int) 10 = ((n / 10 : Nat) : Int) := by rw [Int.tdiv_eq_ediv_of_nonneg (by omega)]; omega
  rw [e, f, u64w (by omega) (by omega), u64w (by omega) (by omega)]
  refine ⟨by omega, by omega, by omega, ?_, rfl⟩
  have := one_digit (n % 10) (by omega)
  rw [show (((n % 10 : Nat) : Int)).toNat = n % 10 by omega, show (((n % 10 : Nat) : Int) + 1).toNat = n % 10 + 1 by omega]
  exact this
theorem ba_app (l m : List UInt8) : (⟨l.toArray⟩ : ByteArray) ++ ⟨m.toArray⟩ = ⟨(l ++ m).toArray⟩ := by
  apply ByteArray.ext
  simp [ByteArray.data_append]
theorem digits_l : ∀ (d k n : Nat) (l : List UInt8), n < 10 ^ d → d < k → n < 18446744073709551616 → l.length + d ≤ 1000 → 
    customhouseref01_digits.l0 k (n : Int) ⟨l.toArray⟩ = some (if n = 0 then ⟨l.toArray⟩ else ⟨(Lib.decDigits n ++ l).toArray⟩) := by
  intro d
  induction d with
  | zero =>
    intro k n l h1 h0 h2 h3
    obtain ⟨k, rfl⟩ : ∃ j, k = j + 1 := ⟨k - 1, by omega⟩
    obtain rfl : n = 0 := by simpa using h1
    rw [customhouseref01_digits.l0, if_neg (by omega), if_pos rfl]
  | succ d ih =>
    intro k n l h1 h0 h2 h3
    obtain ⟨k, rfl⟩ : ∃ j, k = j + 1 := ⟨k - 1, by omega⟩
    by_cases hn : n = 0
    · subst hn
      rw [customhouseref01_digits.l0, if_neg (by omega), if_pos rfl]
    · obtain ⟨e1, e2, e3, e4, e5⟩ := extr n h2
      rw [customhouseref01_digits.l0, if_pos (by omega), if_pos e1, if_pos e2, if_pos e3, e4, e5, if_neg hn]
      have hsz : ((⟨#[UInt8.ofNat (48 + n % 10)]⟩ : ByteArray).size + (⟨l.toArray⟩ : ByteArray).size : Nat) ≤ 9223372036854775807 := by
        rw [← sz, ← sz]; simp; omega
      rw [if_pos hsz, show (⟨#[UInt8.ofNat (48 + n % 10)]⟩ : ByteArray) = ⟨[UInt8.ofNat (48 + n % 10)].toArray⟩ from rfl, ba_app]
      rw [ih k (n / 10) _ (by rw [Nat.pow_succ] at h1; omega) (by omega) (by omega) (by simp; omega)]
      by_cases hb : n < 10
      · rw [if_pos (by omega), dec_small hb, show n % 10 = n by omega]
      · rw [if_neg (by omega), dec_big hb, List.append_assoc]
theorem ref_Decimal (k n : Nat) (hk : 25 ≤ k) (hn : n < 9223372036854775808) : customhouseref01_Decimal.f k (n : Int) = some (dec n) := by
  unfold customhouseref01_Decimal.f
  rw [if_neg (by omega), u64w (by omega) (by omega)]
  unfold customhouseref01_digits.f
  obtain ⟨e1, e2, e3, e4, e5⟩ := extr n (by omega)
  rw [if_pos e1, if_pos e2, if_pos e3, e4, e5]
  rw [show (⟨#[UInt8.ofNat (48 + n % 10)]⟩ : ByteArray) = ⟨[UInt8.ofNat (48 + n % 10)].toArray⟩ from rfl, digits_l 24 k (n / 10) _ (by omega) (by omega) (by omega) (by simp), Option.bind_some]
  unfold dec
  by_cases hb : n < 10
  · rw [if_pos (by omega), dec_small hb, show n % 10 = n by omega]
  · rw [if_neg (by omega), dec_big hb]

/-! digit -/
theorem place (l : List UInt8) (h : ∀ c ∈ l, dig c) (i : Nat) (hi : i < l.length) : (l[l.length - 1 - i]'(by omega)).toNat - 48 = dval l / 10 ^ i % 10 := by
  have e : l = l.take (l.length - 1 - i) ++ l[l.length - 1 - i]'(by omega) :: l.drop (l.length - i) := by
    rw [show l.length - i = l.length - 1 - i + 1 by omega, ← List.drop_eq_getElem_cons, List.take_append_drop]
  have hq : (l.drop (l.length - i)).length = i := by rw [List.length_drop]; omega
  have hl := dval_lt (l := l.drop (l.length - i)) (fun c hc => h c (List.mem_of_mem_drop hc))
  have hc := h _ (List.getElem_mem (l := l) (n := l.length - 1 - i) (by omega))
  unfold dig at hc
  generalize hg : l[l.length - 1 - i]'(by omega) = c at *
  have ev : dval l = (dval (l.take (l.length - 1 - i)) * 10 + (c.toNat - 48)) * 10 ^ i + dval (l.drop (l.length - i)) := by
    rw [congrArg dval e, dval_append, dval_cons, List.length_cons, hq, Nat.pow_succ, Nat.add_mul, Nat.mul_assoc, Nat.mul_comm 10, Nat.add_assoc]
  rw [hq] at hl
  rw [ev, Nat.add_comm, Nat.add_mul_div_right _ _ (Nat.pow_pos (by omega)), Nat.div_eq_of_lt hl]
  omega
theorem ref_digit (s : ByteArray) (h : digs s) (hs : s.size ≤ 1000000) (i : Nat) : customhouseref04_digit.f s (i : Int) = some ((val s / 10 ^ i % 10 : Nat) : Int) := by
  unfold customhouseref04_digit.f
  by_cases hi : s.size ≤ i
  · rw [if_pos (by omega), Nat.div_eq_of_lt (Nat.lt_of_lt_of_le (val_ltD s h) (Nat.pow_le_pow_right (by omega) hi))]
    rfl
  · have e : wrap64 (wrap64 ((s.size : Int) - 1) - (i : Int)) = ((s.size - 1 - i : Nat) : Int) := by
      rw [w64 (n := (s.size : Int) - 1) (by omega) (by omega), w64 (by omega) (by omega)]; omega
    have hl : s.size - 1 - i < s.data.toList.length := by rw [sz]; omega
    rw [if_neg (by omega), e, if_pos (by omega), if_pos (by omega), bt_get s _ hl]
    have hp := place s.data.toList h i (by rw [sz]; omega)
    have hc := h _ (List.getElem_mem hl)
    unfold dig at hc
    unfold val
    rw [← hp]
    simp only [sz]
    have := (s.data.toList[s.size - 1 - i]'hl).toNat_lt
    refine congrArg some ?_
    omega

/-! trim -/
theorem ref_trim_l (s : ByteArray) (h : digs s) (hs : s.size ≤ 1000000) : ∀ (d k i : Nat), s.size - i = d → i < s.size → d ≤ k → dval (s.data.toList.drop i) = val s → customhouseref04_trim.l0 k s (i : Int) = some (dec (val s)) := by
  intro d
  induction d with
  | zero => intro k i h1 h2; omega
  | succ d ih =>
    intro k i h1 h2 h3 h4
    have H4 := Lib.hid h4
    clear h4
    obtain ⟨k, rfl⟩ : ∃ j, k = j + 1 := ⟨k - 1, by omega⟩
    have hl : i < s.data.toList.length := by rw [sz]; omega
    have e0 : wrap64 ((s.size : Int) - 1) = ((s.size - 1 : Nat) : Int) := by rw [w64 (by omega) (by omega)]; omega
    have fin : ((s.data.toList.drop i).length = 1 ∨ (s.data.toList.drop i).head? ≠ some 48) → s.extract i s.size = dec (val s) := fun hh => by
      rw [← H4.out]
      refine dec_of_list _ _ ?_ (fun c hc => h c (List.mem_of_mem_drop hc)) (fun e => by have := congrArg List.length e; rw [List.length_drop, sz] at this; simp at this; omega) hh
      rw [extract_list, List.take_of_length_le (by rw [List.length_drop, sz]; exact Nat.le_refl _)]
    rw [customhouseref04_trim.l0, e0]
    have e1 : wrap64 ((i : Int) + 1) = ((i + 1 : Nat) : Int) := by rw [w64 (by omega) (by omega)]; omega
    by_cases hi : i < s.size - 1
    · rw [if_pos (by omega), if_pos (by omega), if_pos (by omega), bt_get s i hl]
      have ed := List.drop_eq_getElem_cons hl
      by_cases hb : ((s.data.toList[i]'hl).toNat : Int) = 48
      · rw [if_pos hb, e1]
        refine ih k (i + 1) (by omega) (by omega) (by omega) ?_
        rw [← H4.out, ed, dval_cons, show (s.data.toList[i]'hl).toNat - 48 = 0 by omega, Nat.zero_mul, Nat.zero_add]
      · rw [if_neg hb, if_pos (by omega)]
        refine congrArg some ?_
        rw [Int.toNat_natCast]
        refine fin (.inr ?_)
        rw [ed, List.head?_cons]
        intro e
        have := Option.some.inj e
        exact hb (by rw [this]; decide)
    · rw [if_neg (by omega), if_pos (by omega), if_pos (by omega), Int.toNat_natCast]
      refine congrArg some (fin (.inl ?_))
      rw [List.length_drop, sz]; omega
theorem ref_trim (k : Nat) (s : ByteArray) (h : digs s) (hs : s.size ≤ 1000000) (h0 : s.size ≠ 0) (hk : s.size ≤ k) : customhouseref04_trim.f k s = some (dec (val s)) :=
  ref_trim_l s h hs s.size k 0 (by omega) (by omega) hk (by rw [List.drop_zero]; rfl)

/-! value -/
theorem ref_value_l (s : ByteArray) (h : digs s) (hs : s.size ≤ 18) : ∀ (d k i : Nat), s.size - i = d → i ≤ s.size → d < k →
    customhouseref04_value.l0 k s ((dval (s.data.toList.take i) : Nat) : Int) (i : Int) = some ((val s : Nat) : Int) := by
  intro d
  induction d with
  | zero =>
    intro k i h1 h2 h3
    obtain ⟨k, rfl⟩ : ∃ j, k = j + 1 := ⟨k - 1, by omega⟩
    rw [customhouseref04_value.l0, if_neg (by omega), List.take_of_length_le (by rw [sz]; omega)]
    rfl
  | succ d ih =>
    intro k i h1 h2 h3
    obtain ⟨k, rfl⟩ : ∃ j, k = j + 1 := ⟨k - 1, by omega⟩
    have hl : i < s.data.toList.length := by rw [sz]; omega
    have e1 : wrap64 ((i : Int) + 1) = ((i + 1 : Nat) : Int) := by rw [w64 (by omega) (by omega)]; omega
    have hc := h _ (List.getElem_mem hl)
    have hb := dval_lt (l := s.data.toList.take i) (fun c hc => h c (List.mem_of_mem_take hc))
    rw [List.length_take, sz, show min i s.size = i by omega] at hb
    have hb2 : 10 ^ i ≤ 10 ^ 17 := Nat.pow_le_pow_right (by omega) (by omega)
    have et : dval (s.data.toList.take (i + 1)) = dval (s.data.toList.take i) * 10 + ((s.data.toList[i]'hl).toNat - 48) := by
      rw [List.take_succ_eq_append_getElem hl, dval_append, dval_one]; rfl
    unfold dig at hc
    rw [customhouseref04_value.l0, if_pos (by omega), if_pos (by omega), bt_get s i hl, e1]
    rw [← ih k (i + 1) (by omega) (by omega) (by omega), et]
    generalize dval (s.data.toList.take i) = V at *
    generalize (s.data.toList[i]'hl).toNat = c at *
    congr 1
    rw [w64 (n := (V : Int) * 10) (by omega) (by omega), w64 (by omega) (by omega)]
    omega
theorem ref_value (k : Nat) (s : ByteArray) (h : digs s) (hs : s.size ≤ 18) (hk : s.size < k) : customhouseref04_value.f k s = some ((val s : Nat) : Int) :=
  ref_value_l s h hs s.size k 0 (by omega) (by omega) hk
end Go.Proofs.YtdojfnjgipeogaaGreatDoor
/- The reference's functions over digits, as plain laws: text, Minus, Over, Common, Div, Gcd; and the law DividesAsReference. -/
namespace Go.Proofs.YtdojfnjgipeogaaGreatDoor
open Go.RowKit Go.Shelf Go.Proofs.YtdojfnjgipeogaaGreatDoorW.PrintWords Go.Proofs.YtdojfnjgipeogaaGreatDoorW.PrintMore NatB Lb
set_option linter.unusedSimpArgs false
set_option linter.unusedVariables false

/-! text -/
def numT : List Int → Nat
  | [] => 0
  | x :: l => x.toNat + 10 * numT l
def d9 (l : List Int) : Prop := ∀ x ∈ l, 0 ≤ x ∧ x ≤ 9
def up (l : List Int) : List Int := (l.map (fun x => 48 + x)).reverse
theorem numT_snoc : ∀ (l : List Int) (x : Int), numT (l ++ [x]) = numT l + x.toNat * 10 ^ l.length
  | [], x => by simp [numT]
  | y :: l, x => by
    rw [List.cons_append, numT, numT, numT_snoc l x, List.length_cons, Nat.pow_succ, Nat.mul_add, Nat.mul_comm (10 ^ l.length) 10, Nat.mul_left_comm, Nat.add_assoc]
theorem numT_lt : ∀ (l : List Int), d9 l → numT l < 10 ^ l.length
  | [], _ => by simp [numT]
  | x :: l, h => by
    have ih := numT_lt l (fun y hy => h y (List.mem_cons_of_mem _ hy))
    have hx := h x List.mem_cons_self
    rw [numT, List.length_cons, Nat.pow_succ]
    generalize 10 ^ l.length = P at *
    omega
theorem up_digs : ∀ (l : List Int), d9 l → digs (strOfNums (up l)) ∧ val (strOfNums (up l)) = numT l
  | [], _ => ⟨fun c hc => by simp [strOfNums, up] at hc, rfl⟩
  | x :: l, h => by
    have ih := up_digs l (fun y hy => h y (List.mem_cons_of_mem _ hy))
    have hx := h x List.mem_cons_self
    have e : (strOfNums (up (x :: l))).data.toList = (strOfNums (up l)).data.toList ++ [UInt8.ofNat (48 + x).toNat] := by
      simp [strOfNums, up]
    have ht : (UInt8.ofNat (48 + x).toNat).toNat = 48 + x.toNat := by
      rw [UInt8.toNat_ofNat']; omega
    unfold digs val at *
    rw [e]
    refine ⟨fun c hc => ?_, ?_⟩
    · rcases List.mem_append.1 hc with hc | hc
      · exact ih.1 c hc
      · rw [List.mem_singleton.1 hc]; unfold dig; omega
    · rw [dval_append, dval_one, ih.2, numT, List.length_singleton, Nat.pow_one, ht]; omega
theorem up_len (l : List Int) : (up l).length = l.length := by simp [up]
theorem rd_get (l : List Int) (i : Nat) (h : i < l.length) : rd l (i : Int) = l[i] := by
  unfold rd
  rw [Int.toNat_natCast, List.getD_eq_getElem?_getD, List.getElem?_eq_getElem h]
  rfl
theorem ref_text_l (l : List Int) (hd : d9 l) (h0 : l ≠ []) (hl : l.length ≤ 100000) : ∀ (d k i : Nat), l.length - i = d → i ≤ l.length → d + l.length < k →
    customhouseref04_text.l0 k l (List.replicate (l.length - i) 0 ++ up (l.take i)) (i : Int) = some (dec (numT l)) := by
  have hl0 : l.length ≠ 0 := fun e => h0 (List.eq_nil_of_length_eq_zero e)
  intro d
  induction d with
  | zero =>
    intro k i h1 h2 h3
    obtain ⟨k, rfl⟩ : ∃ j, k = j + 1 := ⟨k - 1, by omega⟩
    obtain rfl : i = l.length := by omega
    rw [customhouseref04_text.l0, if_neg (by omega), Nat.sub_self, List.replicate_zero, List.nil_append, List.take_length]
    obtain ⟨u1, u2⟩ := up_digs l hd
    have us : (strOfNums (up l)).size = l.length := by rw [strOfNums_size, up_len]
    rw [ref_trim k _ u1 (by rw [us]; omega) (by rw [us]; exact hl0) (by rw [us]; omega), u2]
    rfl
  | succ d ih =>
    intro k i h1 h2 h3
    obtain ⟨k, rfl⟩ : ∃ j, k = j + 1 := ⟨k - 1, by omega⟩
    have hi : i < l.length := by omega
    have hx := hd _ (List.getElem_mem hi)
    have e0 : wrap64 (wrap64 ((l.length : Int) - 1) - (i : Int)) = ((l.length - 1 - i : Nat) : Int) := by
      rw [w64 (n := (l.length : Int) - 1) (by omega) (by omega), w64 (by omega) (by omega)]; omega
    have e1 : wrap64 ((i : Int) + 1) = ((i + 1 : Nat) : Int) := by rw [w64 (by omega) (by omega)]; omega
    have eu : up (l.take (i + 1)) = (48 + l[i]) :: up (l.take i) := by
      rw [List.take_succ_eq_append_getElem hi]; unfold up; rw [List.map_append, List.reverse_append]; rfl
    have es : (List.replicate (l.length - i) (0 : Int) ++ up (l.take i)).set (l.length - 1 - i) (48 + l[i]) = List.replicate (l.length - (i + 1)) 0 ++ up (l.take (i + 1)) := by
      rw [eu, show l.length - i = (l.length - 1 - i) + 1 by omega, List.replicate_succ', List.append_assoc, List.set_append_right _ _ (by simp), List.length_replicate, Nat.sub_self, show l.length - (i + 1) = l.length - 1 - i by omega]
      rfl
    rw [customhouseref04_text.l0, if_pos (by omega), if_pos (by omega), e0, if_pos (by omega), if_pos (by simp [up_len]; omega), e1, rd_get l i hi, w64 (n := 48 + l[i]) (by omega) (by omega), Int.toNat_natCast,
      show (48 + l[i]) % 256 = 48 + l[i] by omega, es]
    exact ih k (i + 1) (by omega) (by omega) (by omega)
theorem ref_text (k : Nat) (l : List Int) (hd : d9 l) (h0 : l ≠ []) (hl : l.length ≤ 100000) (hk : 2 * l.length < k) : customhouseref04_text.f k l = some (dec (numT l)) := by
  unfold customhouseref04_text.f
  rw [if_pos (by omega), if_pos (by rw [Int.toNat_natCast]; omega), Int.toNat_natCast]
  have := ref_text_l l hd h0 hl l.length k 0 (by omega) (by omega) (by omega)
  rw [List.take_zero] at this
  simpa [up] using this

/-! Minus -/
theorem minus_step (N B A P da db bo y c : Nat) (hc : c = 0 ∨ c = 1) (h : N + B = A + bo * P) (hy : y + db + bo = da + 10 * c) : N + y * P + (B + P * db) = (A + P * da) + c * (P * 10) := by
  have e := congrArg (· * P) hy
  simp only [Nat.add_mul] at e
  rw [Nat.mul_comm P db, Nat.mul_comm P da]
  rcases hc with rfl | rfl <;> omega
theorem minus_end (N A B bo P : Nat) (h : N + B = A + bo * P) (hb : bo ≤ 1) (hN : N < P) (hBA : B ≤ A) : N = A - B := by
  rcases (by omega : bo = 0 ∨ bo = 1) with rfl | rfl <;> omega
theorem ref_Minus_l (a b : ByteArray) (ha : digs a) (hb : digs b) (hs : a.size ≤ 1000) (ht : b.size ≤ 1000) (h0 : a.size ≠ 0) (hle : RowKit.Hid (val b ≤ val a)) : ∀ (d k i : Nat) (out : List Int) (bo : Nat), a.size - i = d → i ≤ a.size → d + 2 * a.size + 1 < k →
    out.length = i → d9 out → bo ≤ 1 → RowKit.Hid (numT out + val b % 10 ^ i = val a % 10 ^ i + bo * 10 ^ i) → customhouseref04_Minus.l0 k a b out (bo : Int) (i : Int) = some (dec (val a - val b)) := by
  intro d
  induction d with
  | zero =>
    intro k i out bo h1 h2 h3 h4 h5 h6 h7
    obtain ⟨k, rfl⟩ : ∃ j, k = j + 1 := ⟨k - 1, by omega⟩
    obtain rfl : i = a.size := by omega
    rw [customhouseref04_Minus.l0, if_neg (by omega)]
    rw [ref_text k out h5 (fun e => by rw [e] at h4; exact h0 h4.symm) (by omega) (by omega)]
    have hlt := val_ltD a ha
    have hN := numT_lt out h5
    have h7 := h7.out
    rw [h4] at hN
    rw [Nat.mod_eq_of_lt hlt, Nat.mod_eq_of_lt (Nat.lt_of_le_of_lt hle.out hlt)] at h7
    rw [minus_end _ _ _ _ _ h7 h6 hN hle.out]
    rfl
  | succ d ih =>
    intro k i out bo h1 h2 h3 h4 h5 h6 h7
    obtain ⟨k, rfl⟩ : ∃ j, k = j + 1 := ⟨k - 1, by omega⟩
    have e1 : wrap64 ((i : Int) + 1) = ((i + 1 : Nat) : Int) := by rw [w64 (by omega) (by omega)]; omega
    rw [customhouseref04_Minus.l0, if_pos (by omega), ref_digit a ha (by omega) i, Option.bind_some, ref_digit b hb (by omega) i, Option.bind_some]
    have ma := Nat.mod_pow_succ (x := val a) (b := 10) (k := i)
    have mb := Nat.mod_pow_succ (x := val b) (b := 10) (k := i)
    have hda : val a / 10 ^ i % 10 < 10 := Nat.mod_lt _ (by omega)
    have hdb : val b / 10 ^ i % 10 < 10 := Nat.mod_lt _ (by omega)
    have IH := ih k (i + 1)
    clear ih
    have step : ∀ (y c : Nat), (c = 0 ∨ c = 1) → y ≤ 9 → y + val b / 10 ^ i % 10 + bo = val a / 10 ^ i % 10 + 10 * c → customhouseref04_Minus.l0 k a b (out ++ [(y : Int)]) (c : Int) ((i + 1 : Nat) : Int) = some (dec (val a - val b)) := fun y c hc hy he => by
      refine IH (out ++ [(y : Int)]) c (by omega) (by omega) (by omega) (by simp [h4]) ?_ (by omega) ?_
      · intro x hx
        rcases List.mem_append.1 hx with hx | hx
        · exact h5 x hx
        · rw [List.mem_singleton.1 hx]; omega
      · show _ = _
        rw [numT_snoc, h4, ma, mb, Int.toNat_natCast, Nat.pow_succ]
        exact minus_step _ _ _ _ _ _ _ _ _ hc h7.out he
    clear ma mb h7 IH
    generalize val a / 10 ^ i % 10 = da at *
    generalize val b / 10 ^ i % 10 = db at *
    have ew : wrap64 (wrap64 ((da : Int) - (db : Int)) - (bo : Int)) = (da : Int) - (db : Int) - (bo : Int) := by rw [w64 (n := (da : Int) - (db : Int)) (by omega) (by omega), w64 (by omega) (by omega)]
    rw [ew, e1]
    by_cases hn : (da : Int) - (db : Int) - (bo : Int) < 0
    · rw [if_pos hn, if_pos (by omega), w64 (n := (da : Int) - (db : Int) - (bo : Int) + 10) (by omega) (by omega)]
      have := step (da + 10 - db - bo) 1 (.inr rfl) (by omega) (by omega)
      rw [show ((da + 10 - db - bo : Nat) : Int) = (da : Int) - (db : Int) - (bo : Int) + 10 by omega] at this
      exact this
    · rw [if_neg hn, if_pos (by omega)]
      have := step (da - db - bo) 0 (.inl rfl) (by omega) (by omega)
      rw [show ((da - db - bo : Nat) : Int) = (da : Int) - (db : Int) - (bo : Int) by omega] at this
      exact this
theorem ref_Minus (k : Nat) (a b : ByteArray) (ha : digs a) (hb : digs b) (hs : a.size ≤ 1000) (ht : b.size ≤ 1000) (h0 : a.size ≠ 0) (hle : val b ≤ val a) (hk : 3 * a.size + 1 < k) : customhouseref04_Minus.f k a b = some (dec (val a - val b)) :=
  ref_Minus_l a b ha hb hs ht h0 hle a.size k 0 [] 0 (by omega) (by omega) (by omega) rfl (fun x hx => by cases hx) (by omega) (by show _ = _; simp [numT, Nat.mod_one])

end Go.Proofs.YtdojfnjgipeogaaGreatDoor
/- The reference's sums and products, as plain laws; and the law MatchesReference. -/
namespace Go.Proofs.YtdojfnjgipeogaaGreatDoor
open Go.RowKit Go.Shelf Go.Proofs.YtdojfnjgipeogaaGreatDoorW.PrintWords Go.Proofs.YtdojfnjgipeogaaGreatDoorW.PrintMore NatB Lb
set_option linter.unusedSimpArgs false
set_option linter.unusedVariables false

/-! Int -/
theorem take_le (l : List UInt8) (i : Nat) : dval (l.take i) ≤ dval l := by
  have h := dval_append (l.take i) (l.drop i)
  rw [List.take_append_drop] at h
  rw [h]
  exact Nat.le_trans (Nat.le_mul_of_pos_right _ (Nat.pow_pos (by omega))) (Nat.le_add_right _ _)
theorem int_step (V c : Nat) (h0 : 48 ≤ c) (h1 : c ≤ 57) (h : V * 10 + (c - 48) ≤ 9223372036854775807) : wrap64 (wrap64 ((V : Int) * 10) + (((c : Nat) : Int) - 48) % 256) = ((V * 10 + (c - 48) : Nat) : Int) := by
  rw [w64 (n := (V : Int) * 10) (by omega) (by omega), w64 (by omega) (by omega)]
  omega
theorem ref_Int_l (s : ByteArray) (h : digs s) (hs : s.size ≤ 1000) (hv : RowKit.Hid (val s ≤ 9223372036854775807)) : ∀ (d k i : Nat), s.size - i = d → i ≤ s.size → d < k →
    customhouseref04_Int.l0 k s ((dval (s.data.toList.take i) : Nat) : Int) (i : Int) = some (((val s : Nat) : Int), 0) := by
  intro d
  induction d with
  | zero =>
    intro k i h1 h2 h3
    obtain ⟨k, rfl⟩ : ∃ j, k = j + 1 := ⟨k - 1, by omega⟩
    have c1 : ¬ (i : Int) < (s.size : Int) := by omega
    rw [customhouseref04_Int.l0, if_neg c1, List.take_of_length_le (by rw [sz]; omega)]
    rfl
  | succ d ih =>
    intro k i h1 h2 h3
    obtain ⟨k, rfl⟩ : ∃ j, k = j + 1 := ⟨k - 1, by omega⟩
    have c1 : (i : Int) < (s.size : Int) := by omega
    have c2 : (0 : Int) ≤ (i : Int) := by omega
    have hl : i < s.data.toList.length := by rw [sz]; omega
    have e1 : wrap64 ((i : Int) + 1) = ((i + 1 : Nat) : Int) := by rw [w64 (by omega) (by omega)]; omega
    have IH := ih k (i + 1) (by omega) (by omega) (by omega)
    have hc := h _ (List.getElem_mem hl)
    have et : dval (s.data.toList.take (i + 1)) = dval (s.data.toList.take i) * 10 + ((s.data.toList[i]'hl).toNat - 48) := by
      rw [List.take_succ_eq_append_getElem hl, dval_append, dval_one]; rfl
    have hle := Nat.le_trans (take_le s.data.toList (i + 1)) hv.out
    rw [et] at hle
    unfold dig at hc
    rw [customhouseref04_Int.l0, if_pos c1, if_pos c2, bt_get s i hl, e1, int_step _ _ hc.1 hc.2 hle, ← et]
    exact IH
def big : ByteArray := ⟨#[57, 50, 50, 51, 51, 55, 50, 48, 51, 54, 56, 53, 52, 55, 55, 53, 56, 48, 55]⟩
theorem big_D : isD big := isD_of (by decide)
theorem big_val : val big = 9223372036854775807 := by decide
theorem ref_Int (k : Nat) (s : ByteArray) (hk : 401 < k) : customhouseref04_Int.f k s = natural_Int.f s := by
  unfold customhouseref04_Int.f natural_Int.f
  rw [ref_Is k s (by omega), Option.bind_some]
  by_cases hs : isN s
  · rw [decide_eq_true hs, if_pos rfl, if_pos hs]
    have hO := ref_Order k s big (isD_of hs) big_D (by omega)
    rw [big_val] at hO
    unfold big at hO
    rw [hO, Option.bind_some]
    by_cases hv : val s ≤ 9223372036854775807
    · have hc : ¬ cmpI (val s : Int) ((9223372036854775807 : Nat) : Int) > 0 := by unfold cmpI; split <;> (try split) <;> omega
      rw [if_neg hc, if_pos hv]
      have hsz := hs.2.1
      exact ref_Int_l s (isD_of hs).2.1 (by omega) hv s.size k 0 (by omega) (by omega) (by omega)
    · have hc : cmpI (val s : Int) ((9223372036854775807 : Nat) : Int) > 0 := by unfold cmpI; split <;> (try split) <;> omega
      rw [if_pos hc, if_neg hv]
  · rw [decide_eq_false hs, if_neg (by simp), if_neg hs]

/-! Compare, Of, limited -/
theorem ref_Compare (k : Nat) (a b : ByteArray) (hk : 401 < k) : customhouseref04_Compare.f k a b = natural_Compare.f a b := by
  unfold customhouseref04_Compare.f natural_Compare.f
  rw [ref_Is k a (by omega), Option.bind_some]
  by_cases ha : isN a
  · rw [decide_eq_true ha, if_pos rfl, ref_Is k b (by omega), Option.bind_some]
    by_cases hb : isN b
    · rw [decide_eq_true hb, if_pos rfl, ref_Order k a b (isD_of ha) (isD_of hb) (by omega), Option.bind_some, if_pos ⟨ha, hb⟩]
    · rw [decide_eq_false hb, if_neg (by simp), if_neg (fun h => hb h.2)]
  · rw [decide_eq_false ha, if_neg (by simp), if_neg (fun h => ha h.1)]
theorem ref_Of (k : Nat) (n : Int) (hk : 401 < k) (h0 : -9223372036854775808 ≤ n) (h1 : n ≤ 9223372036854775807) : customhouseref04_Of.f k n = natural_Of.f n := by
  unfold customhouseref04_Of.f natural_Of.f
  have h01 : -9223372036854775808 ≤ n ∧ n ≤ 9223372036854775807 := ⟨h0, h1⟩
  by_cases hn : n < 0
  · rw [if_pos hn, if_pos h01, if_pos hn]
  · rw [if_neg hn, if_pos h01, if_neg hn]
    obtain ⟨m, rfl⟩ : ∃ m : Nat, n = m := ⟨n.toNat, by omega⟩
    rw [ref_Decimal k m (by omega) (by omega), Int.toNat_natCast]
    rfl
theorem ref_limited (n : Nat) : customhouseref04_limited.f (dec n) = some (lim n) := by
  unfold customhouseref04_limited.f lim
  by_cases h : 300 < (dec n).size
  · rw [if_pos (by omega), if_pos h]
  · rw [if_neg (by omega), if_neg h]

/-! Plus -/
theorem plus_step (N A B P da db c : Nat) (h : N + c * P = A + B) : N + (da + db + c) % 10 * P + (da + db + c) / 10 * (P * 10) = (A + P * da) + (B + P * db) := by
  have e : (da + db + c) % 10 * P + (da + db + c) / 10 * (P * 10) = (da + db + c) * P := by
    have h2 := Nat.mod_add_div (da + db + c) 10
    have h3 := congrArg (· * P) h2
    simp only [Nat.add_mul ((da + db + c) % 10)] at h3
    rw [← h3, Nat.mul_comm 10, Nat.mul_assoc, Nat.mul_comm 10 P]
  rw [Nat.add_mul, Nat.add_mul] at e
  rw [Nat.mul_comm P da, Nat.mul_comm P db]
  omega
theorem plus_end (N A B c P : Nat) (h : N + c * P = A + B) (hA : A * 10 < P) (hB : B * 10 < P) : N = A + B := by
  rcases Nat.eq_zero_or_pos c with rfl | hc
  · omega
  · have : P ≤ c * P := Nat.le_mul_of_pos_left _ hc
    omega
theorem pow_ten (V n m : Nat) (h : V < 10 ^ n) (hn : n ≤ m) : V * 10 < 10 ^ (m + 1) := by
  have h1 : 10 ^ n ≤ 10 ^ m := Nat.pow_le_pow_right (by omega) hn
  rw [Nat.pow_succ]
  omega
theorem ref_Plus_l (a b : ByteArray) (ha : digs a) (hb : digs b) (M : Nat) (hM : M ≤ 400) (hm : RowKit.Hid (wrap64 ((mx (a.size : Int) (b.size : Int)) + 1) = ((M + 1 : Nat) : Int))) (hs : a.size ≤ M) (ht : b.size ≤ M) : ∀ (d k i : Nat) (out : List Int) (c : Nat), M + 1 - i = d → i ≤ M + 1 → d + 2 * (M + 1) + 1 < k →
    out.length = i → d9 out → c ≤ 1 → RowKit.Hid (numT out + c * 10 ^ i = val a % 10 ^ i + val b % 10 ^ i) → customhouseref04_Plus.l0 k a b out (c : Int) (i : Int) = some (dec (val a + val b)) := by
  intro d
  induction d with
  | zero =>
    intro k i out c h1 h2 h3 h4 h5 h6 h7
    obtain ⟨k, rfl⟩ : ∃ j, k = j + 1 := ⟨k - 1, by omega⟩
    obtain rfl : i = M + 1 := by omega
    have c1 : ¬ ((M + 1 : Nat) : Int) < ((M + 1 : Nat) : Int) := by omega
    have c2 : out.length ≤ 100000 := by omega
    have c3 : 2 * out.length < k := by omega
    rw [customhouseref04_Plus.l0, hm.out, if_neg c1]
    rw [ref_text k out h5 (fun e => by rw [e] at h4; cases h4) c2 c3]
    have hA := pow_ten _ _ _ (val_ltD a ha) hs
    have hB := pow_ten _ _ _ (val_ltD b hb) ht
    have h7 := h7.out
    rw [Nat.mod_eq_of_lt (Nat.lt_of_le_of_lt (Nat.le_mul_of_pos_right _ (by decide)) hA), Nat.mod_eq_of_lt (Nat.lt_of_le_of_lt (Nat.le_mul_of_pos_right _ (by decide)) hB)] at h7
    rw [plus_end _ _ _ _ _ h7 hA hB]
    rfl
  | succ d ih =>
    intro k i out c h1 h2 h3 h4 h5 h6 h7
    obtain ⟨k, rfl⟩ : ∃ j, k = j + 1 := ⟨k - 1, by omega⟩
    have e1 : RowKit.Hid (wrap64 ((i : Int) + 1) = ((i + 1 : Nat) : Int)) := by show _ = _; rw [w64 (by omega) (by omega)]; omega
    have c1 : (i : Int) < ((M + 1 : Nat) : Int) := by omega
    have c2 : out.length < 17592186044416 := by omega
    have c3 : a.size ≤ 1000000 := by omega
    have c4 : b.size ≤ 1000000 := by omega
    have c5 : M + 1 - (i + 1) = d := by omega
    have c6 : i + 1 ≤ M + 1 := by omega
    have c7 : d + 2 * (M + 1) + 1 < k := by omega
    rw [customhouseref04_Plus.l0, hm.out, if_pos c1, ref_digit a ha c3 i, Option.bind_some, ref_digit b hb c4 i, Option.bind_some, if_pos c2, e1.out]
    have key : ∀ da db : Nat, da < 10 → db < 10 → wrap64 (wrap64 ((da : Int) + (db : Int)) + (c : Int)) = ((da + db + c : Nat) : Int) ∧ Int.tmod ((da + db + c : Nat) : Int) 10 = (((da + db + c) % 10 : Nat) : Int) ∧ wrap64 (Int.tdiv ((da + db + c : Nat) : Int) 10) = (((da + db + c) / 10 : Nat) : Int) ∧ (da + db + c) / 10 ≤ 1 ∧ (0 ≤ (((da + db + c) % 10 : Nat) : Int) ∧ (((da + db + c) % 10 : Nat) : Int) ≤ 9) := fun da db x y => by
      refine ⟨?_, ?_, ?_, by omega, by omega⟩
      · rw [w64 (n := (da : Int) + (db : Int)) (by omega) (by omega), w64 (by omega) (by omega)]; omega
      · rw [Int.tmod_eq_emod_of_nonneg (by omega)]; omega
      · rw [Int.tdiv_eq_ediv_of_nonneg (by omega), w64 (by omega) (by omega)]; omega
    have ma := Nat.mod_pow_succ (x := val a) (b := 10) (k := i)
    have mb := Nat.mod_pow_succ (x := val b) (b := 10) (k := i)
    have hda : val a / 10 ^ i % 10 < 10 := Nat.mod_lt _ (by decide)
    have hdb : val b / 10 ^ i % 10 < 10 := Nat.mod_lt _ (by decide)
    have hp := plus_step (numT out) (val a % 10 ^ i) (val b % 10 ^ i) (10 ^ i) (val a / 10 ^ i % 10) (val b / 10 ^ i % 10) c h7.out
    rw [← ma, ← mb, ← Nat.pow_succ] at hp
    have HP := Lib.hid hp
    clear ma mb h7 hp
    obtain ⟨k1, k2, k3, k4, k5⟩ := key _ _ hda hdb
    rw [k1, k2, k3]
    refine ih k (i + 1) _ _ c5 c6 c7 (by rw [List.length_append, h4]; rfl) ?_ k4 ?_
    · intro x hx
      rcases List.mem_append.1 hx with hx | hx
      · exact h5 x hx
      · rw [List.mem_singleton.1 hx]; exact k5
    · show _ = _
      rw [numT_snoc, h4, Int.toNat_natCast]
      exact HP.out
theorem ref_Plus_loop (k : Nat) (a b : ByteArray) (ha : isN a) (hb : isN b) (hk : 3000 ≤ k) : customhouseref04_Plus.l0 k a b ([] : List Int) 0 0 = some (dec (val a + val b)) := by
  have has := ha.2.1
  have hbs := hb.2.1
  have da := (isD_of ha).2.1
  have db := (isD_of hb).2.1
  rcases Nat.le_total a.size b.size with h | h
  · refine ref_Plus_l a b da db b.size (by omega) ?_ h (Nat.le_refl _) (b.size + 1) k 0 [] 0 (by omega) (by omega) (by omega) rfl (fun x hx => by cases hx) (by omega) (by show _ = _; simp [numT, Nat.mod_one])
    show _ = _
    have : mx (a.size : Int) (b.size : Int) = (b.size : Int) := by unfold mx; split <;> omega
    rw [this, w64 (by omega) (by omega)]; omega
  · refine ref_Plus_l a b da db a.size (by omega) ?_ (Nat.le_refl _) h (a.size + 1) k 0 [] 0 (by omega) (by omega) (by omega) rfl (fun x hx => by cases hx) (by omega) (by show _ = _; simp [numT, Nat.mod_one])
    show _ = _
    have : mx (a.size : Int) (b.size : Int) = (a.size : Int) := by unfold mx; split <;> omega
    rw [this, w64 (by omega) (by omega)]; omega
theorem lt18 {s : ByteArray} (h : digs s) (h1 : s.size ≤ 18) : val s < 1000000000000000000 := by
  have h2 : 10 ^ s.size ≤ 10 ^ 18 := Nat.pow_le_pow_right (by decide) h1
  exact Nat.lt_of_lt_of_le (val_ltD s h) h2
theorem add_w (x y : Nat) (h : x < 1000000000000000000) (g : y < 1000000000000000000) : wrap64 ((x : Int) + (y : Int)) = ((x + y : Nat) : Int) ∧ x + y < 9223372036854775808 := by
  rw [w64 (by omega) (by omega)]; omega
theorem ref_Plus_small (k : Nat) (a b : ByteArray) (ha : isN a) (hb : isN b) (hk : 3000 ≤ k) (h1 : a.size ≤ 18) (h2 : b.size ≤ 18) :
    ((customhouseref04_value.f k a).bind fun t137 => ((customhouseref04_value.f k b).bind fun t138 => ((customhouseref01_Decimal.f k (wrap64 (t137 + t138))).bind fun t139 => (some t139)))) = some (dec (val a + val b)) := by
  have da := (isD_of ha).2.1
  have db := (isD_of hb).2.1
  have hk2 : 25 ≤ k := by omega
  obtain ⟨w1, w2⟩ := add_w (val a) (val b) (lt18 da h1) (lt18 db h2)
  rw [ref_value k a da h1 (Nat.lt_of_le_of_lt h1 (Nat.lt_of_lt_of_le (by decide) hk2)), Option.bind_some, ref_value k b db h2 (Nat.lt_of_le_of_lt h2 (Nat.lt_of_lt_of_le (by decide) hk2)), Option.bind_some, w1, ref_Decimal k _ hk2 w2, Option.bind_some]
theorem ref_Plus (k : Nat) (a b : ByteArray) (ha : isN a) (hb : isN b) (hk : 3000 < k) : customhouseref04_Plus.f k a b = some (dec (val a + val b)) := by
  obtain ⟨k, rfl⟩ : ∃ j, k = j + 1 := ⟨k - 1, by omega⟩
  have hk' : 3000 ≤ k := by omega
  have loop := ref_Plus_loop k a b ha hb hk'
  unfold customhouseref04_Plus.f
  by_cases h1 : a.size ≤ 18
  · rw [if_pos (by omega)]
    by_cases h2 : b.size ≤ 18
    · rw [decide_eq_true (by omega), customhouseref04_Plus.j0, if_pos rfl]
      exact ref_Plus_small k a b ha hb hk' h1 h2
    · rw [decide_eq_false (by omega), customhouseref04_Plus.j0, if_neg (by simp)]
      exact loop
  · rw [if_neg (by omega), customhouseref04_Plus.j0, if_neg (by simp)]
    exact loop

/-! Times -/
theorem numT_set : ∀ (l : List Int) (p : Nat) (v : Int) (h : p < l.length), numT (l.set p v) + (l[p]).toNat * 10 ^ p = numT l + v.toNat * 10 ^ p
  | x :: l, 0, v, _ => by simp [numT]; omega
  | x :: l, p + 1, v, h => by
    have ih := numT_set l p v (by simpa using h)
    simp only [List.set_cons_succ, numT, List.getElem_cons_succ, Nat.pow_succ]
    have e1 : (l[p]'(by simpa using h)).toNat * (10 ^ p * 10) = 10 * ((l[p]'(by simpa using h)).toNat * 10 ^ p) := by rw [← Nat.mul_assoc, Nat.mul_comm]
    have e2 : v.toNat * (10 ^ p * 10) = 10 * (v.toNat * 10 ^ p) := by rw [← Nat.mul_assoc, Nat.mul_comm]
    rw [e1, e2]
    generalize (l[p]'(by simpa using h)).toNat * 10 ^ p = y at *
    generalize v.toNat * 10 ^ p = z at *
    omega
theorem numT_add (l : List Int) (p : Nat) (x : Nat) (h : p < l.length) (h0 : 0 ≤ l[p]) : numT (l.set p (l[p] + (x : Int))) = numT l + x * 10 ^ p := by
  have e := numT_set l p (l[p] + (x : Int)) h
  rw [show (l[p] + (x : Int)).toNat = (l[p]).toNat + x by omega, Nat.add_mul] at e
  omega
theorem numT_zeros (n : Nat) : numT (List.replicate n 0) = 0 := by
  induction n with
  | zero => rfl
  | succ n ih => rw [List.replicate_succ, numT, ih]; rfl
theorem mem_set (l : List Int) (p : Nat) (v : Int) (Q : Int → Prop) (h : ∀ x ∈ l, Q x) (hv : Q v) : ∀ x ∈ l.set p v, Q x := fun x hx => by
  rcases List.mem_or_eq_of_mem_set hx with hx | rfl
  · exact h x hx
  · exact hv
theorem times_step (N A da B db vb Pi Pj : Nat) (h : N = A * vb + da * B * Pi) : N + (da * db) * (Pi * Pj) = A * vb + da * (B + Pj * db) * Pi := by
  rw [h, Nat.mul_add, Nat.add_mul, Nat.add_assoc]
  congr 2
  rw [Nat.mul_comm Pj db, ← Nat.mul_assoc da, Nat.mul_assoc (da * db), Nat.mul_comm Pi]
theorem times_row (A da vb Pi : Nat) : A * vb + da * vb * Pi = (A + Pi * da) * vb := by
  rw [Nat.add_mul, Nat.mul_comm Pi, Nat.mul_right_comm]
theorem carry_lt (l T : Nat) (x P : Nat) (h : x * P ≤ T) (hT : T < P) : x = 0 := by
  rcases Nat.eq_zero_or_pos x with h0 | h0
  · exact h0
  · have := Nat.le_mul_of_pos_left P h0
    omega
theorem numT_ge (l : List Int) (p : Nat) (h : p < l.length) : (l[p]).toNat * 10 ^ p ≤ numT l := by
  have := numT_set l p 0 h
  simp at this
  omega
theorem tl2 (out : List Int) (T : Nat) (hlen : out.length ≤ 1000) (h0 : out.length ≠ 0) (hT : RowKit.Hid (T < 10 ^ (out.length - 1))) : ∀ (d k i : Nat) (o : List Int), out.length - 1 - i = d → i ≤ out.length - 1 → d + 2 * out.length + 1 < k → o.length = out.length →
    (∀ j (hj : j < o.length), j < i → 0 ≤ o[j] ∧ o[j] ≤ 9) → (∀ x ∈ o, 0 ≤ x) → (∀ j (hj : j < o.length), i < j → o[j] ≤ 1000000000) → (∀ j (hj : j < o.length), j = i → o[j] ≤ 2000000000) → RowKit.Hid (numT o = T) → customhouseref04_Times.l2 k o (i : Int) = some (dec T) := by
  intro d
  induction d with
  | zero =>
    intro k i o h1 h2 h3 h4 h5 h6 h7 h8 h9
    obtain ⟨k, rfl⟩ : ∃ j, k = j + 1 := ⟨k - 1, by omega⟩
    have e1 : wrap64 ((i : Int) + 1) = ((i + 1 : Nat) : Int) := by rw [w64 (by omega) (by omega)]; omega
    have c1 : ¬ ((i + 1 : Nat) : Int) < (o.length : Int) := by omega
    have c2 : o.length ≤ 100000 := by omega
    have c3 : 2 * o.length < k := by omega
    have c4 : i < o.length := by omega
    have c5 : i = out.length - 1 := by omega
    have c6 : ∀ j, j < o.length → ¬ j < i → j = i := fun j x y => by omega
    have hx := h6 _ (List.getElem_mem c4)
    have hge := numT_ge o i c4
    rw [h9.out] at hge
    have hz := carry_lt 0 T _ _ hge (by rw [c5]; exact hT.out)
    rw [customhouseref04_Times.l2, e1, if_neg c1, ref_text k o ?_ (fun e => by rw [e] at c4; cases c4) c2 c3, h9.out]
    · rfl
    · intro x hxm
      obtain ⟨j, hj, rfl⟩ := List.getElem_of_mem hxm
      by_cases hji : j < i
      · exact h5 j hj hji
      · obtain rfl := c6 j hj hji
        omega
  | succ d ih =>
    intro k i o h1 h2 h3 h4 h5 h6 h7 h8 h9
    obtain ⟨k, rfl⟩ : ∃ j, k = j + 1 := ⟨k - 1, by omega⟩
    have e1 : wrap64 ((i : Int) + 1) = ((i + 1 : Nat) : Int) := by rw [w64 (by omega) (by omega)]; omega
    have c1 : ((i + 1 : Nat) : Int) < (o.length : Int) := by omega
    have c2 : (0 : Int) ≤ ((i + 1 : Nat) : Int) := by omega
    have c3 : (0 : Int) ≤ (i : Int) := by omega
    have c4 : (i : Int) < (o.length : Int) := by omega
    have hi : i < o.length := by omega
    have hi1 : i + 1 < o.length := by omega
    have c5 : out.length - 1 - (i + 1) = d := by omega
    have c6 : i + 1 ≤ out.length - 1 := by omega
    have c7 : d + 2 * out.length + 1 < k := by omega
    have c8 : ∀ j, j < i + 1 → j ≠ i → j < i := fun j x y => by omega
    rw [customhouseref04_Times.l2, e1, if_pos c1, if_pos c2, if_pos c3, if_pos c4, rd_get o (i + 1) hi1, rd_get o i hi, Int.toNat_natCast, Int.toNat_natCast]
    have p0 := h6 _ (List.getElem_mem hi)
    have p1 := h6 _ (List.getElem_mem hi1)
    have q0 := h8 i hi rfl
    have q1 := h7 (i + 1) hi1 (Nat.lt_succ_self i)
    have hN := h9.out
    have hset := numT_add o (i + 1) ((o[i]).toNat / 10) hi1 p1
    generalize hx : o[i] = x at *
    generalize hy : o[i + 1] = y at *
    have ed : Int.tdiv x 10 = ((x.toNat / 10 : Nat) : Int) := by rw [Int.tdiv_eq_ediv_of_nonneg p0]; omega
    have em : Int.tmod x 10 = ((x.toNat % 10 : Nat) : Int) := by rw [Int.tmod_eq_emod_of_nonneg p0]; omega
    have ex : ((x.toNat : Nat) : Int) = x := by omega
    have r1 : y + ((x.toNat / 10 : Nat) : Int) ≤ 2000000000 := by omega
    have r2 : 0 ≤ y + ((x.toNat / 10 : Nat) : Int) := by omega
    have r3 : (0 : Int) ≤ ((x.toNat % 10 : Nat) : Int) ∧ ((x.toNat % 10 : Nat) : Int) ≤ 9 := by omega
    rw [ed, w64 (n := ((x.toNat / 10 : Nat) : Int)) (by omega) (by omega), w64 (n := y + ((x.toNat / 10 : Nat) : Int)) (by omega) (by omega), Option.bind_some]
    have hl' : i < (o.set (i + 1) (y + ((x.toNat / 10 : Nat) : Int))).length := by rw [List.length_set]; exact hi
    have hgi : (o.set (i + 1) (y + ((x.toNat / 10 : Nat) : Int)))[i] = x := by rw [List.getElem_set_ne (by omega)]; exact hx
    rw [rd_get _ i hl', hgi, em]
    have hset2 := numT_set (o.set (i + 1) (y + ((x.toNat / 10 : Nat) : Int))) i ((x.toNat % 10 : Nat) : Int) hl'
    rw [hgi, hset, hN, Int.toNat_natCast] at hset2
    have hN2 : numT ((o.set (i + 1) (y + ((x.toNat / 10 : Nat) : Int))).set i ((x.toNat % 10 : Nat) : Int)) = T := by
      have hm := Nat.mod_add_div x.toNat 10
      generalize hX : x.toNat = X at *
      rw [Nat.pow_succ] at hset2
      generalize 10 ^ i = P at *
      have hq := congrArg (· * P) hm
      simp only [Nat.add_mul] at hq
      rw [Nat.mul_comm 10, Nat.mul_assoc, Nat.mul_comm 10 P] at hq
      generalize X / 10 * (P * 10) = u at *
      generalize X % 10 * P = v at *
      generalize X * P = w at *
      clear c1 c2 c3 c4 c5 c6 c7 c8 h1 h2 h3 h4 q0 q1 p0 p1 r1 r2 r3 ed em ex
      omega
    have g : ∀ j (hj : j < ((o.set (i + 1) (y + ((x.toNat / 10 : Nat) : Int))).set i ((x.toNat % 10 : Nat) : Int)).length), j ≠ i → j ≠ i + 1 → ((o.set (i + 1) (y + ((x.toNat / 10 : Nat) : Int))).set i ((x.toNat % 10 : Nat) : Int))[j] = o[j]'(by simpa using hj) := fun j hj a b => by
      rw [List.getElem_set_ne (fun e => a e.symm), List.getElem_set_ne (fun e => b e.symm)]
    refine ih k (i + 1) _ c5 c6 c7 (by rw [List.length_set, List.length_set]; exact h4) ?_ ?_ ?_ ?_ hN2
    · intro j hj hji
      by_cases hq : j = i
      · subst hq; rw [List.getElem_set_self]; exact r3
      · rw [g j hj hq (Nat.ne_of_lt hji)]; exact h5 j _ (c8 j hji hq)
    · exact mem_set _ _ _ _ (mem_set _ _ _ _ h6 r2) r3.1
    · intro j hj hji
      rw [g j hj (by omega) (by omega)]; exact h7 j _ (by omega)
    · intro j hj hji
      subst hji
      rw [List.getElem_set_ne (by omega), List.getElem_set_self]; exact r1
theorem times_l1 (a b : ByteArray) (ha : digs a) (hb : digs b) (has : a.size ≤ 300) (hbs : b.size ≤ 300) (i : Nat) (hi : i < a.size) (K c0 : Nat) (R : Option ByteArray) (hc0 : c0 ≤ 900000)
    (cont : ∀ k out, K ≤ k → out.length = a.size + b.size + 1 → (∀ x ∈ out, 0 ≤ x ∧ x ≤ 81 * ((c0 + b.size : Nat) : Int)) → RowKit.Hid (numT out = val a % 10 ^ (i + 1) * val b) → customhouseref04_Times.l0 k a b out ((i + 1 : Nat) : Int) = R) :
    ∀ (d k j : Nat) (out : List Int), b.size - j = d → j ≤ b.size → K + d < k → out.length = a.size + b.size + 1 → (∀ x ∈ out, 0 ≤ x ∧ x ≤ 81 * ((c0 + j : Nat) : Int)) →
    RowKit.Hid (numT out = val a % 10 ^ i * val b + val a / 10 ^ i % 10 * (val b % 10 ^ j) * 10 ^ i) → customhouseref04_Times.l1 k a b out (i : Int) (j : Int) = R := by
  intro d
  induction d with
  | zero =>
    intro k j out h1 h2 h3 h4 h5 h6
    obtain ⟨k, rfl⟩ : ∃ j, k = j + 1 := ⟨k - 1, by omega⟩
    obtain rfl : j = b.size := by omega
    have e1 : RowKit.Hid (wrap64 ((i : Int) + 1) = ((i + 1 : Nat) : Int)) := by show _ = _; rw [w64 (by omega) (by omega)]; omega
    have c1 : ¬ (b.size : Int) < (b.size : Int) := by omega
    have c2 : K ≤ k := by omega
    rw [customhouseref04_Times.l1, if_neg c1, e1.out]
    refine cont k out c2 h4 h5 ?_
    show _ = _
    rw [h6.out, Nat.mod_eq_of_lt (val_ltD b hb), times_row, ← Nat.mod_pow_succ]
  | succ d ih =>
    intro k j out h1 h2 h3 h4 h5 h6
    obtain ⟨k, rfl⟩ : ∃ j, k = j + 1 := ⟨k - 1, by omega⟩
    have e1 : RowKit.Hid (wrap64 ((j : Int) + 1) = ((j + 1 : Nat) : Int)) := by show _ = _; rw [w64 (by omega) (by omega)]; omega
    have e2 : RowKit.Hid (wrap64 ((i : Int) + (j : Int)) = ((i + j : Nat) : Int)) := by show _ = _; rw [w64 (by omega) (by omega)]; omega
    have c1 : (j : Int) < (b.size : Int) := by omega
    have c2 : (0 : Int) ≤ ((i + j : Nat) : Int) := by omega
    have c3 : ((i + j : Nat) : Int) < (out.length : Int) := by omega
    have c4 : i + j < out.length := by omega
    have c5 : a.size ≤ 1000000 := by omega
    have c6 : b.size ≤ 1000000 := by omega
    have c7 : b.size - (j + 1) = d := by omega
    have c8 : j + 1 ≤ b.size := by omega
    have c9 : K + d < k := by omega
    have hx := h5 _ (List.getElem_mem c4)
    have hcj : c0 + j ≤ 900300 := by omega
    have step : ∀ da db : Nat, da < 10 → db < 10 → 0 ≤ ((da * db : Nat) : Int) ∧ ((da * db : Nat) : Int) ≤ 81 ∧ wrap64 ((da : Int) * (db : Int)) = ((da * db : Nat) : Int) := fun da db x y => by
      have : da * db ≤ 9 * 9 := Nat.mul_le_mul (by omega) (by omega)
      refine ⟨by omega, by omega, ?_⟩
      rw [← Int.natCast_mul, w64 (by omega) (by omega)]
    have hda : val a / 10 ^ i % 10 < 10 := Nat.mod_lt _ (by decide)
    have hdb : val b / 10 ^ j % 10 < 10 := Nat.mod_lt _ (by decide)
    obtain ⟨s1, s2, s3⟩ := step _ _ hda hdb
    have hN := numT_add out (i + j) (val a / 10 ^ i % 10 * (val b / 10 ^ j % 10)) c4 hx.1
    rw [Nat.pow_add, h6.out, times_step _ (val a % 10 ^ i) (val a / 10 ^ i % 10) (val b % 10 ^ j) (val b / 10 ^ j % 10) (val b) (10 ^ i) (10 ^ j) rfl, ← Nat.mod_pow_succ] at hN
    rw [customhouseref04_Times.l1, if_pos c1, e2.out, if_pos c2, if_pos c3, ref_digit a ha c5 i, Option.bind_some, ref_digit b hb c6 j, Option.bind_some, s3, rd_get out (i + j) c4, Int.toNat_natCast, e1.out]
    have HN := Lib.hid hN
    clear hN h6 hda hdb step s3
    generalize val a / 10 ^ i % 10 * (val b / 10 ^ j % 10) = z at *
    have hz : wrap64 (out[i + j] + (z : Int)) = out[i + j] + (z : Int) := w64 (by omega) (by omega)
    rw [hz]
    refine ih k (j + 1) _ c7 c8 c9 (by rw [List.length_set]; exact h4) ?_ HN
    refine mem_set _ _ _ (fun x => 0 ≤ x ∧ x ≤ 81 * ((c0 + (j + 1) : Nat) : Int)) (fun x hx => ?_) ?_
    · have := h5 x hx; omega
    · omega
theorem times_l0 (a b : ByteArray) (ha : digs a) (hb : digs b) (has : a.size ≤ 300) (hbs : b.size ≤ 300) : ∀ (d k i c : Nat) (out : List Int), a.size - i = d → i ≤ a.size → 400 * d + 3000 ≤ k → c + d * b.size ≤ 900000 → out.length = a.size + b.size + 1 →
    (∀ x ∈ out, 0 ≤ x ∧ x ≤ 81 * (c : Int)) → RowKit.Hid (numT out = val a % 10 ^ i * val b) → customhouseref04_Times.l0 k a b out (i : Int) = some (dec (val a * val b)) := by
  intro d
  induction d with
  | zero =>
    intro k i c out h1 h2 h3 h4 h5 h6 h7
    obtain ⟨k, rfl⟩ : ∃ j, k = j + 1 := ⟨k - 1, by omega⟩
    obtain rfl : i = a.size := by omega
    have c1 : ¬ (a.size : Int) < (a.size : Int) := by omega
    have c2 : out.length ≤ 1000 := by omega
    have c3 : out.length ≠ 0 := by omega
    have c4 : out.length - 1 + 2 * out.length + 1 < k := by omega
    have c5 : out.length - 1 = a.size + b.size := by omega
    have hc : c ≤ 900000 := by omega
    have hT : val a * val b < 10 ^ (out.length - 1) := by
      rw [c5, Nat.pow_add]
      exact Nat.mul_lt_mul'' (val_ltD a ha) (val_ltD b hb)
    have hb9 : ∀ j (hj : j < out.length), out[j] ≤ 1000000000 := fun j hj => by
      have := h6 _ (List.getElem_mem hj); omega
    have h7 := h7.out
    rw [Nat.mod_eq_of_lt (val_ltD a ha)] at h7
    rw [customhouseref04_Times.l0, if_neg c1]
    exact tl2 out (val a * val b) c2 c3 hT (out.length - 1) k 0 out rfl (Nat.zero_le _) c4 rfl (fun j _ h => absurd h (Nat.not_lt_zero j)) (fun x hx => (h6 x hx).1) (fun j hj _ => hb9 j hj) (fun j hj _ => Int.le_trans (hb9 j hj) (by decide)) h7
  | succ d ih =>
    intro k i c out h1 h2 h3 h4 h5 h6 h7
    obtain ⟨k, rfl⟩ : ∃ j, k = j + 1 := ⟨k - 1, by omega⟩
    have c1 : (i : Int) < (a.size : Int) := by omega
    have c2 : i < a.size := by omega
    have c3 : a.size - (i + 1) = d := by omega
    have c4 : 400 * d + 3000 + b.size < k := by omega
    rw [Nat.add_mul, Nat.one_mul] at h4
    have c5 : c + b.size + d * b.size ≤ 900000 := by generalize d * b.size = z at *; omega
    have c6 : c ≤ 900000 := by generalize d * b.size = z at *; omega
    rw [customhouseref04_Times.l0, if_pos c1]
    refine times_l1 a b ha hb has hbs i c2 (400 * d + 3000) c _ c6 (fun k' out' hk' hl' hx' hN' => ih k' (i + 1) (c + b.size) out' c3 c2 hk' c5 hl' hx' hN') b.size k 0 out (Nat.sub_zero _) (Nat.zero_le _) c4 h5 h6 ?_
    show _ = _
    rw [h7.out, Nat.pow_zero, Nat.mod_one, Nat.mul_zero, Nat.zero_mul, Nat.add_zero]
theorem ref_Times_loop (k : Nat) (a b : ByteArray) (ha : isN a) (hb : isN b) (hk : 130000 ≤ k) : customhouseref04_Times.l0 k a b (List.replicate (a.size + b.size + 1) 0) 0 = some (dec (val a * val b)) := by
  have has := ha.2.1
  have hbs := hb.2.1
  refine times_l0 a b (isD_of ha).2.1 (isD_of hb).2.1 has hbs a.size k 0 0 _ (Nat.sub_zero _) (Nat.zero_le _) (by omega) ?_ (by rw [List.length_replicate]) (fun x hx => ?_) ?_
  · have := Nat.mul_le_mul has hbs; omega
  · rw [(List.mem_replicate.1 hx).2]; omega
  · show _ = _
    rw [numT_zeros, Nat.pow_zero, Nat.mod_one, Nat.zero_mul]
theorem lt9 {s : ByteArray} (h : digs s) (h1 : s.size ≤ 9) : val s < 1000000000 := by
  have h2 : 10 ^ s.size ≤ 10 ^ 9 := Nat.pow_le_pow_right (by decide) h1
  exact Nat.lt_of_lt_of_le (val_ltD s h) h2
theorem mul_w (x y : Nat) (h : x < 1000000000) (g : y < 1000000000) : wrap64 ((x : Int) * (y : Int)) = ((x * y : Nat) : Int) ∧ x * y < 9223372036854775808 := by
  have h3 : x * y < 1000000000 * 1000000000 := Nat.mul_lt_mul'' h g
  rw [← Int.natCast_mul]
  generalize x * y = z at *
  rw [w64 (by omega) (by omega)]
  exact ⟨rfl, by omega⟩
theorem ref_Times_small (k : Nat) (a b : ByteArray) (ha : isN a) (hb : isN b) (hk : 130000 ≤ k) (h1 : a.size ≤ 9) (h2 : b.size ≤ 9) :
    ((customhouseref04_value.f k a).bind fun t164 => ((customhouseref04_value.f k b).bind fun t165 => ((customhouseref01_Decimal.f k (wrap64 (t164 * t165))).bind fun t166 => (some t166)))) = some (dec (val a * val b)) := by
  have da := (isD_of ha).2.1
  have db := (isD_of hb).2.1
  have hk2 : 25 ≤ k := by omega
  obtain ⟨w1, w2⟩ := mul_w (val a) (val b) (lt9 da h1) (lt9 db h2)
  rw [ref_value k a da (Nat.le_trans h1 (by decide)) (Nat.lt_of_le_of_lt h1 (Nat.lt_of_lt_of_le (by decide) hk2)), Option.bind_some, ref_value k b db (Nat.le_trans h2 (by decide)) (Nat.lt_of_le_of_lt h2 (Nat.lt_of_lt_of_le (by decide) hk2)), Option.bind_some, w1, ref_Decimal k _ hk2 w2, Option.bind_some]
theorem ref_Times (k : Nat) (a b : ByteArray) (ha : isN a) (hb : isN b) (hk : 130000 < k) : customhouseref04_Times.f k a b = some (dec (val a * val b)) := by
  obtain ⟨k, rfl⟩ : ∃ j, k = j + 1 := ⟨k - 1, by omega⟩
  have hk' : 130000 ≤ k := by omega
  have has := ha.2.1
  have hbs := hb.2.1
  have loop : customhouseref04_Times.j0 (k + 1) a b false = some (dec (val a * val b)) := by
    have e : RowKit.Hid (wrap64 (wrap64 ((a.size : Int) + (b.size : Int)) + 1) = ((a.size + b.size + 1 : Nat) : Int)) := by
      show _ = _
      rw [w64 (n := (a.size : Int) + (b.size : Int)) (by omega) (by omega), w64 (by omega) (by omega)]; omega
    have c1 : (0 : Int) ≤ ((a.size + b.size + 1 : Nat) : Int) := by omega
    have c2 : a.size + b.size + 1 ≤ 35184372088832 := by omega
    rw [customhouseref04_Times.j0, if_neg (by simp), e.out, if_pos c1, Int.toNat_natCast, if_pos c2]
    exact ref_Times_loop k a b ha hb hk'
  unfold customhouseref04_Times.f
  by_cases h1 : a.size ≤ 9
  · rw [if_pos (by omega)]
    by_cases h2 : b.size ≤ 9
    · rw [decide_eq_true (by omega), customhouseref04_Times.j0, if_pos rfl]
      exact ref_Times_small k a b ha hb hk' h1 h2
    · rw [decide_eq_false (by omega)]
      exact loop
  · rw [if_neg (by omega)]
    exact loop

/-! Add, Sub, Mul -/
theorem ref_Add (k : Nat) (a b : ByteArray) (hk : 3001 < k) : customhouseref04_Add.f k a b = natural_Add.f a b := by
  obtain ⟨k, rfl⟩ : ∃ j, k = j + 1 := ⟨k - 1, by omega⟩
  unfold customhouseref04_Add.f
  rw [ref_Is _ a (by omega), Option.bind_some]
  by_cases ha : isN a
  · rw [decide_eq_true ha, if_pos rfl, ref_Is _ b (by omega), Option.bind_some]
    by_cases hb : isN b
    · rw [decide_eq_true hb, customhouseref04_Add.j0, if_neg (by simp), ref_Plus k a b ha hb (by omega), Option.bind_some, ref_limited, Option.bind_some, add_f ha hb]
    · rw [decide_eq_false hb, customhouseref04_Add.j0, if_pos (by simp), add_n (fun h => hb h.2)]
  · rw [decide_eq_false ha, if_neg (by simp), customhouseref04_Add.j0, if_pos rfl, add_n (fun h => ha h.1)]
theorem ref_Mul (k : Nat) (a b : ByteArray) (hk : 130001 < k) : customhouseref04_Mul.f k a b = natural_Mul.f a b := by
  obtain ⟨k, rfl⟩ : ∃ j, k = j + 1 := ⟨k - 1, by omega⟩
  unfold customhouseref04_Mul.f
  rw [ref_Is _ a (by omega), Option.bind_some]
  by_cases ha : isN a
  · rw [decide_eq_true ha, if_pos rfl, ref_Is _ b (by omega), Option.bind_some]
    by_cases hb : isN b
    · rw [decide_eq_true hb, customhouseref04_Mul.j0, if_neg (by simp), ref_Times k a b ha hb (by omega), Option.bind_some, ref_limited, Option.bind_some, mul_f ha hb]
    · rw [decide_eq_false hb, customhouseref04_Mul.j0, if_pos (by simp), mul_n (fun h => hb h.2)]
  · rw [decide_eq_false ha, if_neg (by simp), customhouseref04_Mul.j0, if_pos rfl, mul_n (fun h => ha h.1)]
theorem ref_Sub (k : Nat) (a b : ByteArray) (hk : 3001 < k) : customhouseref04_Sub.f k a b = natural_Sub.f a b := by
  obtain ⟨k, rfl⟩ : ∃ j, k = j + 1 := ⟨k - 1, by omega⟩
  unfold customhouseref04_Sub.f
  rw [ref_Is _ a (by omega), Option.bind_some]
  by_cases ha : isN a
  · rw [decide_eq_true ha, if_pos rfl, ref_Is _ b (by omega), Option.bind_some]
    by_cases hb : isN b
    · have has := ha.2.1
      have hbs := hb.2.1
      rw [decide_eq_true hb, customhouseref04_Sub.j0, if_neg (by simp), ref_Order k a b (isD_of ha) (isD_of hb) (by omega), Option.bind_some]
      by_cases h : val b ≤ val a
      · have hc : ¬ cmpI (val a : Int) (val b : Int) < 0 := by unfold cmpI; split <;> (try split) <;> omega
        rw [if_neg hc, ref_Minus k a b (isD_of ha).2.1 (isD_of hb).2.1 (by omega) (by omega) ha.1 h (by omega), Option.bind_some, sub_f ha hb h]
      · have hc : cmpI (val a : Int) (val b : Int) < 0 := by unfold cmpI; split <;> (try split) <;> omega
        rw [if_pos hc, sub_r ha hb h]
    · rw [decide_eq_false hb, customhouseref04_Sub.j0, if_pos (by simp), sub_n (fun h => hb h.2)]
  · rw [decide_eq_false ha, if_neg (by simp), customhouseref04_Sub.j0, if_pos rfl, sub_n (fun h => ha h.1)]

/-! The law -/
theorem head_pure (k : Nat) : customhouselaw04_head.f (k + 1) = some true := by
  unfold customhouselaw04_head.f
  simp only [h1, h2, h3, h4, h5, h6, h7, Option.bind_some, Lib.toList_data]
  simp [customhouselaw04_head.j0, h8, h9, h10, h11, h12, Lib.toList_data]
theorem i64_range {a : Int} (h : (Lit.int .i64 a).wf = true) : -9223372036854775808 ≤ a ∧ a ≤ 9223372036854775807 := by
  simp [Lit.wf] at h
  have e1 : IntKind.i64.min = -9223372036854775808 := by decide
  have e2 : IntKind.i64.max = 9223372036854775807 := by decide
  try rw [e1] at h
  try rw [e2] at h
  exact h
theorem law1 (k : Nat) (a b : ByteArray) (hk : 130001 < k) : customhouselaw04_NaturalMatchesReference.j1 (k + 1) a b true false = some true := by
  rw [customhouselaw04_NaturalMatchesReference.j1, if_neg (by simp), ref_Add k a b (by omega), ref_Sub k a b (by omega), ref_Mul k a b hk]
  obtain ⟨r, hr⟩ : ∃ r, natural_Add.f a b = some r := ⟨_, rfl⟩
  obtain ⟨t, ht⟩ : ∃ r, natural_Sub.f a b = some r := ⟨_, rfl⟩
  obtain ⟨u, hu⟩ : ∃ r, natural_Mul.f a b = some r := ⟨_, rfl⟩
  rw [hr, ht, hu]
  simp
theorem NaturalMatchesReference_pure (a b : ByteArray) (n : Int) (wn : (Lit.int .i64 n).wf = true) : ∃ k, customhouselaw04_NaturalMatchesReference.f k a b n = some true := by
  obtain ⟨w0, w1⟩ := i64_range wn
  refine ⟨130002 + 1 + 1, ?_⟩
  unfold customhouselaw04_NaturalMatchesReference.f
  rw [head_pure, Option.bind_some]
  by_cases h : (a.size : Int) > 400
  · rw [if_pos h, customhouselaw04_NaturalMatchesReference.j0, if_pos rfl]
  · rw [if_neg h, customhouselaw04_NaturalMatchesReference.j0]
    by_cases g : (b.size : Int) > 400
    · rw [decide_eq_true g, if_pos rfl]
    · rw [decide_eq_false g, if_neg (by simp), ref_Int _ a (by omega), ref_Compare _ a b (by omega), ref_Is _ a (by omega), ref_Of _ n (by omega) w0 w1]
      obtain ⟨r, hr⟩ : ∃ r, natural_Int.f a = some r := ⟨_, rfl⟩
      obtain ⟨t, ht⟩ : ∃ r, natural_Compare.f a b = some r := ⟨_, rfl⟩
      obtain ⟨u, hu⟩ : ∃ r, natural_Of.f n = some r := by unfold natural_Of.f; rw [if_pos ⟨w0, w1⟩]; exact ⟨_, rfl⟩
      have hs : natural_Is.f a = some (decide (isN a)) := rfl
      have hl := law1 130002 a b (by omega)
      rw [hr, ht, hu, hs]
      simp only [Option.bind_some, if_true, bne_self_eq_false, Bool.false_eq_true, if_false]
      exact hl
end Go.Proofs.YtdojfnjgipeogaaGreatDoor
