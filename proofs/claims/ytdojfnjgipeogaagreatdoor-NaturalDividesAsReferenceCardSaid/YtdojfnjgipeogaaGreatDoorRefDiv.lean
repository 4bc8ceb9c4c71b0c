/- The plain laws' common ground: what the functions answer where both texts are numbers. -/
import Derived.Test.YtdojfnjgipeogaaGreatDoorNatY
import Derived.Test.YtdojfnjgipeogaaGreatDoorLax4
namespace Go.Proofs.YtdojfnjgipeogaaGreatDoor
open Go.RowKit Go.Shelf Go.Proofs.YtdojfnjgipeogaaGreatDoorW.PrintWords Go.Proofs.YtdojfnjgipeogaaGreatDoorW.PrintMore NatB

def ok (n : Nat) : Prop := (dec n).size ≤ 300
instance (n : Nat) : Decidable (ok n) := inferInstanceAs (Decidable (_ ≤ _))
theorem lim_pos {n : Nat} (h : ok n) : lim n = (dec n, 0) := by unfold lim; rw [if_neg (by unfold ok at h; omega)]
theorem lim_neg {n : Nat} (h : ¬ ok n) : lim n = (⟨#[]⟩, 2) := by unfold lim; rw [if_pos (by unfold ok at h; omega)]
theorem isN_ok {n : Nat} (h : ok n) : isN (dec n) := (isN_dec n).2 h
theorem ok_val {s : ByteArray} (h : isN s) : ok (val s) := by unfold ok; rw [dec_val s h]; exact h.2.1
theorem ok_le {n m : Nat} (h : n ≤ m) (hm : ok m) : ok n := by
  unfold ok at *
  have h1 := dec_lt m
  have h2 : n < 10 ^ ((dec m).size - 1 + 1) := by
    rcases Nat.eq_zero_or_pos (dec m).size with h0 | h0
    · rw [h0] at h1
      refine Nat.lt_of_le_of_lt h (Nat.lt_of_lt_of_le h1 (Nat.pow_le_pow_right (by omega) (by omega)))
    · rw [show (dec m).size - 1 + 1 = (dec m).size by omega]
      exact Nat.lt_of_le_of_lt h h1
  have h3 := dec_le n _ h2
  omega
theorem nil_not : ¬ isN ⟨#[]⟩ := fun h => h.1 rfl
theorem is_t {s : ByteArray} (h : isN s) : natural_Is.f s = some true := by unfold natural_Is.f; rw [decide_eq_true h]
theorem is_n {s : ByteArray} (h : ¬ isN s) : natural_Is.f s = some false := by unfold natural_Is.f; rw [decide_eq_false h]
theorem add_f {a b : ByteArray} (ha : isN a) (hb : isN b) : natural_Add.f a b = some (lim (val a + val b)) := by unfold natural_Add.f; rw [if_pos ⟨ha, hb⟩]
theorem mul_f {a b : ByteArray} (ha : isN a) (hb : isN b) : natural_Mul.f a b = some (lim (val a * val b)) := by unfold natural_Mul.f; rw [if_pos ⟨ha, hb⟩]
theorem gcd_f {a b : ByteArray} (ha : isN a) (hb : isN b) : natural_Gcd.f a b = some (dec (Nat.gcd (val a) (val b)), 0) := by
  unfold natural_Gcd.f
  rw [if_pos ⟨ha, hb⟩, lim_pos]
  rcases Nat.eq_zero_or_pos (val a) with h | h
  · rw [h, Nat.gcd_zero_left]; exact ok_val hb
  · exact ok_le (Nat.gcd_le_left _ h) (ok_val ha)
theorem sub_f {a b : ByteArray} (ha : isN a) (hb : isN b) (h : val b ≤ val a) : natural_Sub.f a b = some (dec (val a - val b), 0) := by
  unfold natural_Sub.f; rw [if_pos ⟨ha, hb⟩, if_pos h, lim_pos (ok_le (Nat.sub_le _ _) (ok_val ha))]
theorem sub_r {a b : ByteArray} (ha : isN a) (hb : isN b) (h : ¬ val b ≤ val a) : natural_Sub.f a b = some (⟨#[]⟩, 10) := by
  unfold natural_Sub.f; rw [if_pos ⟨ha, hb⟩, if_neg h]
theorem div_f {a b : ByteArray} (ha : isN a) (hb : isN b) (h : val b ≠ 0) : natural_Div.f a b = some (dec (val a / val b), dec (val a % val b), 0) := by
  unfold natural_Div.f
  rw [if_pos ⟨ha, hb⟩, if_neg h, lim_pos (ok_le (Nat.div_le_self _ _) (ok_val ha)), lim_pos (ok_le (Nat.mod_le _ _) (ok_val ha))]
theorem div_z {a b : ByteArray} (ha : isN a) (hb : isN b) (h : val b = 0) : natural_Div.f a b = some (⟨#[]⟩, ⟨#[]⟩, 15) := by
  unfold natural_Div.f; rw [if_pos ⟨ha, hb⟩, if_pos h]
theorem cmp_f {a b : ByteArray} (ha : isN a) (hb : isN b) : natural_Compare.f a b = some (cmpI (val a : Int) (val b : Int), 0) := by unfold natural_Compare.f; rw [if_pos ⟨ha, hb⟩]
theorem add_n {a b : ByteArray} (h : ¬ (isN a ∧ isN b)) : natural_Add.f a b = some (⟨#[]⟩, 1) := by unfold natural_Add.f; rw [if_neg h]; rfl
theorem mul_n {a b : ByteArray} (h : ¬ (isN a ∧ isN b)) : natural_Mul.f a b = some (⟨#[]⟩, 1) := by unfold natural_Mul.f; rw [if_neg h]; rfl
theorem sub_n {a b : ByteArray} (h : ¬ (isN a ∧ isN b)) : natural_Sub.f a b = some (⟨#[]⟩, 1) := by unfold natural_Sub.f; rw [if_neg h]; rfl
theorem gcd_n {a b : ByteArray} (h : ¬ (isN a ∧ isN b)) : natural_Gcd.f a b = some (⟨#[]⟩, 1) := by unfold natural_Gcd.f; rw [if_neg h]; rfl
theorem cmp_n {a b : ByteArray} (h : ¬ (isN a ∧ isN b)) : natural_Compare.f a b = some (0, 1) := by unfold natural_Compare.f; rw [if_neg h]
theorem div_n {a b : ByteArray} (h : ¬ (isN a ∧ isN b)) : natural_Div.f a b = some (⟨#[]⟩, ⟨#[]⟩, 1) := by unfold natural_Div.f; rw [if_neg h]
/-- A numeral that is written out. -/
theorem dec_lit (s : ByteArray) (h : isN s) (n : Nat) (hn : val s = n) : dec n = s := by rw [← hn]; exact dec_val s h
theorem tl {a b : ByteArray} : a.toList = b.toList ↔ a = b := by
  rw [Lib.toList_data, Lib.toList_data]
  constructor
  · intro h
    obtain ⟨⟨l⟩⟩ := a
    obtain ⟨⟨m⟩⟩ := b
    simp only at h
    rw [h]
  · rintro rfl; rfl

/-! The examples. -/
theorem h1 : natural_Mul.f ⟨#[49, 50]⟩ ⟨#[49, 50]⟩ = some (⟨#[49, 52, 52]⟩, 0) := by
  rw [mul_f (by decide) (by decide), show val ⟨#[49, 50]⟩ * val ⟨#[49, 50]⟩ = val ⟨#[49, 52, 52]⟩ from rfl, lim_pos (ok_val (by decide)), dec_val _ (by decide)]
theorem h2 : natural_Sub.f ⟨#[53]⟩ ⟨#[55]⟩ = some (⟨#[]⟩, 10) := sub_r (by decide) (by decide) (by decide)
theorem h3 : natural_Div.f ⟨#[49, 48, 48]⟩ ⟨#[55]⟩ = some (⟨#[49, 52]⟩, ⟨#[50]⟩, 0) := by
  rw [div_f (by decide) (by decide) (by decide), dec_lit ⟨#[49, 52]⟩ (by decide) (val ⟨#[49, 48, 48]⟩ / val ⟨#[55]⟩) rfl, dec_lit ⟨#[50]⟩ (by decide) (val ⟨#[49, 48, 48]⟩ % val ⟨#[55]⟩) rfl]
theorem h4 : natural_Div.f ⟨#[55]⟩ ⟨#[48]⟩ = some (⟨#[]⟩, ⟨#[]⟩, 15) := div_z (by decide) (by decide) rfl
theorem h5 : natural_Gcd.f ⟨#[49, 50]⟩ ⟨#[49, 56]⟩ = some (⟨#[54]⟩, 0) := by
  rw [gcd_f (by decide) (by decide), dec_lit ⟨#[54]⟩ (by decide) _ (by decide)]
theorem h6 : natural_Gcd.f ⟨#[48]⟩ ⟨#[48]⟩ = some (⟨#[48]⟩, 0) := by
  rw [gcd_f (by decide) (by decide), dec_lit ⟨#[48]⟩ (by decide) _ (by decide)]
theorem h7 : natural_Int.f ⟨#[57, 50, 50, 51, 51, 55, 50, 48, 51, 54, 56, 53, 52, 55, 55, 53, 56, 48, 56]⟩ = some (0, 10) := by
  unfold natural_Int.f
  rw [if_pos (by decide), if_neg (by decide)]
theorem h8 : natural_Of.f (-1) = some ⟨#[]⟩ := rfl
theorem h9 : natural_Is.f ⟨#[48]⟩ = some true := is_t (by decide)
theorem h10 : natural_Is.f ⟨#[48, 48]⟩ = some false := is_n (by decide)
theorem h11 : natural_Is.f ⟨#[]⟩ = some false := is_n (by decide)
theorem h12 : natural_Is.f ⟨#[49, 50]⟩ = some true := is_t (by decide)
end Go.Proofs.YtdojfnjgipeogaaGreatDoor
/- The reference's functions over digits, as plain laws: number, Is, Order, Decimal, digit, trim, value. -/
namespace Go.Proofs.YtdojfnjgipeogaaGreatDoor
open Go.RowKit Go.Shelf Go.Proofs.YtdojfnjgipeogaaGreatDoorW.PrintWords Go.Proofs.YtdojfnjgipeogaaGreatDoorW.PrintMore NatB La
set_option linter.unusedSimpArgs false
set_option linter.unusedVariables false

/-- A text of digits, of any length. -/
def digs (s : ByteArray) : Prop := ∀ c ∈ s.data.toList, dig c
/-- A natural number of any length. -/
def isD (s : ByteArray) : Prop := s.size ≠ 0 ∧ digs s ∧ (s.size = 1 ∨ s.data.toList.head? ≠ some 48)
theorem isD_of {s : ByteArray} (h : isN s) : isD s := ⟨h.1, h.2.2.1, h.2.2.2⟩
theorem sz (s : ByteArray) : s.data.toList.length = s.size := (Lib.size_eq s).symm
theorem dec_of_list (s : ByteArray) (l : List UInt8) (hs : s.data.toList = l) (hd : ∀ c ∈ l, dig c) (h0 : l ≠ []) (hh : l.length = 1 ∨ l.head? ≠ some 48) : s = dec (dval l) := by
  unfold dec
  rw [dec_dval l hd h0 hh, ← hs]
theorem dec_D (s : ByteArray) (h : isD s) : dec (val s) = s :=
  (dec_of_list s s.data.toList rfl h.2.1 (fun e => h.1 (by rw [← sz, e]; rfl)) (by rw [sz]; exact h.2.2)).symm
theorem D_dec (n : Nat) : isD (dec n) := by
  refine ⟨?_, ?_, ?_⟩
  · rw [dec_size]
    have := Lib.decDigits_length n
    intro h
    rw [h] at this
    have h2 := dval_dec n
    have h3 : Lib.decDigits n = [] := List.eq_nil_of_length_eq_zero this
    by_cases hn : n = 0
    · subst hn; rw [dec_small (by omega)] at h3; cases h3
    · rw [h3] at h2; exact hn h2.symm
  · exact dig_dec n
  · by_cases hn : n = 0
    · subst hn; left; unfold dec; rw [dec_small (by omega)]; rfl
    · right; exact dec_head n hn
theorem val_ltD (s : ByteArray) (h : digs s) : val s < 10 ^ s.size := by
  have := dval_lt h
  rw [sz] at this
  exact this
theorem bt_get (s : ByteArray) (i : Nat) (h : i < s.data.toList.length) : bt s (i : Int) = ((s.data.toList[i]'h).toNat : Int) := by
  have h' : i < s.size := by rw [← sz]; exact h
  unfold bt
  rw [dif_pos (by simpa using h')]
  rfl
theorem dval_cons (c : UInt8) (l : List UInt8) : dval (c :: l) = (c.toNat - 48) * 10 ^ l.length + dval l := by
  have := dval_append [c] l
  rwa [dval_one] at this

/-! number, Is -/
theorem number_l (s : ByteArray) (hs : s.size ≤ 1000) : ∀ (d k i : Nat), s.size - i = d → i ≤ s.size → d < k →
    customhouseref04_number.l0 k s (i : Int) = some (decide ((∀ c ∈ s.data.toList.drop i, dig c) ∧ (s.size = 1 ∨ (s.size > 1 ∧ bt s 0 ≠ 48)))) := by
  intro d
  induction d with
  | zero =>
    intro k i h1 h2 h3
    obtain ⟨k, rfl⟩ : ∃ j, k = j + 1 := ⟨k - 1, by omega⟩
    rw [customhouseref04_number.l0, if_neg (by omega)]
    have hd : s.data.toList.drop i = [] := List.drop_eq_nil_of_le (by rw [sz]; omega)
    rw [hd]
    by_cases a : s.size = 1
    · rw [if_pos (by omega)]; simp [a]
    · rw [if_neg (by omega)]
      by_cases b : s.size > 1
      · rw [if_pos (by omega), if_pos (by omega)]
        simp [a, b]
        by_cases c : bt s 0 = 48 <;> simp [c]
      · rw [if_neg (by omega)]; simp [a, b]
  | succ d ih =>
    intro k i h1 h2 h3
    obtain ⟨k, rfl⟩ : ∃ j, k = j + 1 := ⟨k - 1, by omega⟩
    have hi : i < s.data.toList.length := by rw [sz]; omega
    rw [customhouseref04_number.l0, if_pos (by omega), if_pos (by omega), bt_get s i hi, List.drop_eq_getElem_cons hi]
    generalize s.data.toList[i] = c
    have e1 : wrap64 ((i : Int) + 1) = ((i + 1 : Nat) : Int) := by rw [w64 (by omega) (by omega)]; omega
    by_cases a : (c.toNat : Int) < 48
    · rw [if_pos a]
      have : ¬ dig c := fun h => by unfold dig at h; omega
      simp [this]
    · rw [if_neg a]
      by_cases b : (c.toNat : Int) > 57
      · rw [if_pos b]
        have : ¬ dig c := fun h => by unfold dig at h; omega
        simp [this]
      · rw [if_neg b, e1, ih k (i + 1) (by omega) (by omega) (by omega)]
        have : dig c := by unfold dig; omega
        simp [this]
theorem head_bt (s : ByteArray) (h : s.size ≠ 0) : (s.data.toList.head? ≠ some 48) ↔ bt s 0 ≠ 48 := by
  have h0 : 0 < s.data.toList.length := by rw [sz]; omega
  rw [show (0 : Int) = ((0 : Nat) : Int) from rfl, bt_get s 0 h0]
  rw [List.head?_eq_getElem?, List.getElem?_eq_getElem h0]
  simp only [ne_eq, Option.some.injEq]
  rw [show (48 : UInt8) = UInt8.ofNat 48 from rfl]
  constructor
  · intro h e; exact h (UInt8.toNat_inj.1 (by show (s.data.toList[0]'h0).toNat = 48; omega))
  · intro h e; exact h (by rw [e]; rfl)
theorem ref_Is (k : Nat) (s : ByteArray) (hk : 301 < k) : customhouseref04_Is.f k s = some (decide (isN s)) := by
  unfold customhouseref04_Is.f
  by_cases h : s.size ≤ 300
  · rw [if_pos (by omega)]
    unfold customhouseref04_number.f
    rw [show (0 : Int) = ((0 : Nat) : Int) from rfl, number_l s (by omega) s.size k 0 (by omega) (by omega) (by omega), Option.bind_some, List.drop_zero]
    refine congrArg some (decide_eq_decide.2 ?_)
    unfold isN
    constructor
    · rintro ⟨a, b | ⟨b, c⟩⟩
      · exact ⟨by omega, h, a, .inl b⟩
      · exact ⟨by omega, h, a, .inr ((head_bt s (by omega)).2 c)⟩
    · rintro ⟨a, _, b, c | c⟩
      · exact ⟨b, .inl c⟩
      · by_cases e : s.size = 1
        · exact ⟨b, .inl e⟩
        · exact ⟨b, .inr ⟨by omega, (head_bt s a).1 c⟩⟩
  · rw [if_neg (by omega)]
    refine congrArg some (decide_eq_false (fun hn => h hn.2.1)).symm

/-! Order -/
theorem less_dval : ∀ (l m : List UInt8), l.length = m.length → (∀ c ∈ l, dig c) → (∀ c ∈ m, dig c) → Op.bytesLess l m = decide (dval l < dval m)
  | [], [], _, _, _ => by simp [Op.bytesLess, dval]
  | a :: l, b :: m, h, hl, hm => by
    have e : l.length = m.length := by simpa using h
    have ih := less_dval l m e (fun c x => hl c (List.mem_cons_of_mem _ x)) (fun c x => hm c (List.mem_cons_of_mem _ x))
    rw [Op.bytesLess, ih, dval_cons, dval_cons, e]
    have h1 := dval_lt (fun c x => hl c (List.mem_cons_of_mem _ x))
    have h2 := dval_lt (fun c x => hm c (List.mem_cons_of_mem _ x))
    rw [e] at h1
    have ha := hl a List.mem_cons_self
    have hb := hm b List.mem_cons_self
    unfold dig at ha hb
    generalize 10 ^ m.length = P at *
    rcases Nat.lt_trichotomy a.toNat b.toNat with c | c | c
    · have : a < b := UInt8.lt_iff_toNat_lt.2 c
      have h3 : (a.toNat - 48 + 1) * P ≤ (b.toNat - 48) * P := Nat.mul_le_mul_right _ (by omega)
      rw [Nat.add_mul] at h3
      have h4 : (a.toNat - 48) * P + dval l < (b.toNat - 48) * P + dval m := by omega
      rw [decide_eq_true this, decide_eq_true h4, Bool.true_or]
    · have : a = b := UInt8.toNat_inj.1 c
      subst this
      have : ¬ a < a := fun h => by have := UInt8.lt_iff_toNat_lt.1 h; omega
      rw [decide_eq_false this]
      simp
    · have : ¬ a < b := fun h => by have := UInt8.lt_iff_toNat_lt.1 h; omega
      have h4 : ¬ a = b := fun h => by rw [h] at c; omega
      have h3 : (b.toNat - 48 + 1) * P ≤ (a.toNat - 48) * P := Nat.mul_le_mul_right _ (by omega)
      rw [Nat.add_mul] at h3
      have h5 : ¬ ((a.toNat - 48) * P + dval l < (b.toNat - 48) * P + dval m) := by omega
      rw [decide_eq_false this, decide_eq_false h5]
      simp [h4]
theorem ref_Order (k : Nat) (a b : ByteArray) (ha : isD a) (hb : isD b) (hk : 0 < k) : customhouseref04_Order.f k a b = some (cmpI (val a : Int) (val b : Int)) := by
  obtain ⟨k, rfl⟩ : ∃ j, k = j + 1 := ⟨k - 1, by omega⟩
  have da := dec_D a ha
  have db := dec_D b hb
  have lt_of : ∀ x y : ByteArray, isD x → isD y → x.size < y.size → val x < val y := fun x y hx hy h => by
    refine Nat.lt_of_not_le fun hle => ?_
    have h1 := Nat.lt_of_le_of_lt hle (val_ltD x hx.2.1)
    have hx0 := hx.1
    rw [show x.size = x.size - 1 + 1 by omega] at h1
    have h2 := dec_le _ _ h1
    rw [dec_D y hy] at h2
    omega
  unfold customhouseref04_Order.f
  by_cases h : a.size < b.size
  · rw [if_pos (by omega), customhouseref04_Order.j0, if_pos rfl]
    have := lt_of a b ha hb h
    unfold cmpI
    rw [if_pos (by omega)]
  · rw [if_neg (by omega)]
    by_cases e : a.size = b.size
    · rw [if_pos (by omega), customhouseref04_Order.j0, Lib.toList_data, Lib.toList_data, less_dval _ _ (by rw [sz, sz, e]) ha.2.1 hb.2.1]
      change (if decide (val a < val b) = true then _ else _) = _
      by_cases c : val a < val b
      · rw [if_pos (decide_eq_true c)]
        unfold cmpI
        rw [if_pos (by omega)]
      · rw [if_neg (by simpa using c)]
        by_cases f : val a = val b
        · have : a = b := by rw [← da, ← db, f]
          rw [if_pos (by rw [this])]
          unfold cmpI
          rw [if_neg (by omega), if_neg (by omega)]
        · rw [if_neg (fun g => f (by unfold val; rw [g]))]
          unfold cmpI
          rw [if_neg (by omega), if_pos (by omega)]
    · rw [if_neg (by omega), customhouseref04_Order.j0, if_neg (by simp)]
      have := lt_of b a hb ha (by omega)
      rw [if_neg (fun g => by rw [Lib.toList_data, Lib.toList_data] at g; exact e (by rw [← sz, ← sz, g]))]
      unfold cmpI
      rw [if_neg (by omega), if_pos (by omega)]

/-! Decimal -/
theorem u64w {n : Int} (h0 : 0 ≤ n) (h1 : n < 18446744073709551616) : IntKind.u64.wrap n = n := by
  have e : IntKind.u64.wrap n = n % 18446744073709551616 := by rfl
  rw [e]; omega
theorem one_digit (d : Nat) (h : d < 10) : (⟨#[48, 49, 50, 51, 52, 53, 54, 55, 56, 57]⟩ : ByteArray).extract d (d + 1) = ⟨#[UInt8.ofNat (48 + d)]⟩ := by
  rcases (by omega : d = 0 ∨ d = 1 ∨ d = 2 ∨ d = 3 ∨ d = 4 ∨ d = 5 ∨ d = 6 ∨ d = 7 ∨ d = 8 ∨ d = 9) with rfl | rfl | rfl | rfl | rfl | rfl | rfl | rfl | rfl | rfl <;> decide
theorem extr (n : Nat) (hn : n < 18446744073709551616) : 0 ≤ Int.tmod (n : Int) 10 ∧ Int.tmod (n : Int) 10 ≤ IntKind.u64.wrap (Int.tmod (n : Int) 10 + 1) ∧ IntKind.u64.wrap (Int.tmod (n : Int) 10 + 1) ≤ 10 ∧
    (⟨#[48, 49, 50, 51, 52, 53, 54, 55, 56, 57]⟩ : ByteArray).extract (Int.tmod (n : Int) 10).toNat (IntKind.u64.wrap (Int.tmod (n : Int) 10 + 1)).toNat = ⟨#[UInt8.ofNat (48 + n % 10)]⟩ ∧ IntKind.u64.wrap (Int.tdiv (n : Int) 10) = ((n / 10 : Nat) : Int) := by
  have e : Int.tmod (n : Int) 10 = ((n % 10 : Nat) : Int) := by rw [Int.tmod_eq_emod_of_nonneg (by omega)]; omega
  have f : Int.tdiv (n : Int) 10 = ((n / 10 : Nat) : Int) := by rw [Int.tdiv_eq_ediv_of_nonneg (by omega)]; omega
  rw [e, f, u64w (by omega) (by omega), u64w (by omega) (by omega)]
  refine ⟨by omega, by omega, by omega, ?_, rfl⟩
  have := one_digit (n % 10) (by omega)
  rw [show (((n % 10 : Nat) : Int)).toNat = n % 10 by omega, show (((n % 10 : Nat) : Int) + 1).toNat = n % 10 + 1 by omega]
  exact this
theorem ba_app (l m : List UInt8) : (⟨l.toArray⟩ : ByteArray) ++ ⟨m.toArray⟩ = ⟨(l ++ m).toArray⟩ := by
  apply ByteArray.ext
  simp [ByteArray.data_append]
theorem digits_l : ∀ (d k n : Nat) (l : List UInt8), n < 10 ^ d → d < k → n < 18446744073709551616 → l.length + d ≤ 1000 → 
    customhouseref01_digits.l0 k (n : Int) ⟨l.toArray⟩ = some (if n = 0 then ⟨l.toArray⟩ else ⟨(Lib.decDigits n ++ l).toArray⟩) := by
  intro d
  induction d with
  | zero =>
    intro k n l h1 h0 h2 h3
    obtain ⟨k, rfl⟩ : ∃ j, k = j + 1 := ⟨k - 1, by omega⟩
    obtain rfl : n = 0 := by simpa using h1
    rw [customhouseref01_digits.l0, if_neg (by omega), if_pos rfl]
  | succ d ih =>
    intro k n l h1 h0 h2 h3
    obtain ⟨k, rfl⟩ : ∃ j, k = j + 1 := ⟨k - 1, by omega⟩
    by_cases hn : n = 0
    · subst hn
      rw [customhouseref01_digits.l0, if_neg (by omega), if_pos rfl]
    · obtain ⟨e1, e2, e3, e4, e5⟩ := extr n h2
      rw [customhouseref01_digits.l0, if_pos (by omega), if_pos e1, if_pos e2, if_pos e3, e4, e5, if_neg hn]
      have hsz : ((⟨#[UInt8.ofNat (48 + n % 10)]⟩ : ByteArray).size + (⟨l.toArray⟩ : ByteArray).size : Nat) ≤ 9223372036854775807 := by
        rw [← sz, ← sz]; simp; omega
      rw [if_pos hsz, show (⟨#[UInt8.ofNat (48 + n % 10)]⟩ : ByteArray) = ⟨[UInt8.ofNat (48 + n % 10)].toArray⟩ from rfl, ba_app]
      rw [ih k (n / 10) _ (by rw [Nat.pow_succ] at h1; omega) (by omega) (by omega) (by simp; omega)]
      by_cases hb : n < 10
      · rw [if_pos (by omega), dec_small hb, show n % 10 = n by omega]
      · rw [if_neg (by omega), dec_big hb, List.append_assoc]
theorem ref_Decimal (k n : Nat) (hk : 25 ≤ k) (hn : n < 9223372036854775808) : customhouseref01_Decimal.f k (n : Int) = some (dec n) := by
  unfold customhouseref01_Decimal.f
  rw [if_neg (by omega), u64w (by omega) (by omega)]
  unfold customhouseref01_digits.f
  obtain ⟨e1, e2, e3, e4, e5⟩ := extr n (by omega)
  rw [if_pos e1, if_pos e2, if_pos e3, e4, e5]
  rw [show (⟨#[UInt8.ofNat (48 + n % 10)]⟩ : ByteArray) = ⟨[UInt8.ofNat (48 + n % 10)].toArray⟩ from rfl, digits_l 24 k (n / 10) _ (by omega) (by omega) (by omega) (by simp), Option.bind_some]
  unfold dec
  by_cases hb : n < 10
  · rw [if_pos (by omega), dec_small hb, show n % 10 = n by omega]
  · rw [if_neg (by omega), dec_big hb]

/-! digit -/
theorem place (l : List UInt8) (h : ∀ c ∈ l, dig c) (i : Nat) (hi : i < l.length) : (l[l.length - 1 - i]'(by omega)).toNat - 48 = dval l / 10 ^ i % 10 := by
  have e : l = l.take (l.length - 1 - i) ++ l[l.length - 1 - i]'(by omega) :: l.drop (l.length - i) := by
    rw [show l.length - i = l.length - 1 - i + 1 by omega, ← List.drop_eq_getElem_cons, List.take_append_drop]
  have hq : (l.drop (l.length - i)).length = i := by rw [List.length_drop]; omega
  have hl := dval_lt (l := l.drop (l.length - i)) (fun c hc => h c (List.mem_of_mem_drop hc))
  have hc := h _ (List.getElem_mem (l := l) (n := l.length - 1 - i) (by omega))
  unfold dig at hc
  generalize hg : l[l.length - 1 - i]'(by omega) = c at *
  have ev : dval l = (dval (l.take (l.length - 1 - i)) * 10 + (c.toNat - 48)) * 10 ^ i + dval (l.drop (l.length - i)) := by
    rw [congrArg dval e, dval_append, dval_cons, List.length_cons, hq, Nat.pow_succ, Nat.add_mul, Nat.mul_assoc, Nat.mul_comm 10, Nat.add_assoc]
  rw [hq] at hl
  rw [ev, Nat.add_comm, Nat.add_mul_div_right _ _ (Nat.pow_pos (by omega)), Nat.div_eq_of_lt hl]
  omega
theorem ref_digit (s : ByteArray) (h : digs s) (hs : s.size ≤ 1000000) (i : Nat) : customhouseref04_digit.f s (i : Int) = some ((val s / 10 ^ i % 10 : Nat) : Int) := by
  unfold customhouseref04_digit.f
  by_cases hi : s.size ≤ i
  · rw [if_pos (by omega), Nat.div_eq_of_lt (Nat.lt_of_lt_of_le (val_ltD s h) (Nat.pow_le_pow_right (by omega) hi))]
    rfl
  · have e : wrap64 (wrap64 ((s.size : Int) - 1) - (i : Int)) = ((s.size - 1 - i : Nat) : Int) := by
      rw [w64 (n := (s.size : Int) - 1) (by omega) (by omega), w64 (by omega) (by omega)]; omega
    have hl : s.size - 1 - i < s.data.toList.length := by rw [sz]; omega
    rw [if_neg (by omega), e, if_pos (by omega), if_pos (by omega), bt_get s _ hl]
    have hp := place s.data.toList h i (by rw [sz]; omega)
    have hc := h _ (List.getElem_mem hl)
    unfold dig at hc
    unfold val
    rw [← hp]
    simp only [sz]
    have := (s.data.toList[s.size - 1 - i]'hl).toNat_lt
    refine congrArg some ?_
    omega

/-! trim -/
theorem ref_trim_l (s : ByteArray) (h : digs s) (hs : s.size ≤ 1000000) : ∀ (d k i : Nat), s.size - i = d → i < s.size → d ≤ k → dval (s.data.toList.drop i) = val s → customhouseref04_trim.l0 k s (i : Int) = some (dec (val s)) := by
  intro d
  induction d with
  | zero => intro k i h1 h2; omega
  | succ d ih =>
    intro k i h1 h2 h3 h4
    have H4 := Lib.hid h4
    clear h4
    obtain ⟨k, rfl⟩ : ∃ j, k = j + 1 := ⟨k - 1, by omega⟩
    have hl : i < s.data.toList.length := by rw [sz]; omega
    have e0 : wrap64 ((s.size : Int) - 1) = ((s.size - 1 : Nat) : Int) := by rw [w64 (by omega) (by omega)]; omega
    have fin : ((s.data.toList.drop i).length = 1 ∨ (s.data.toList.drop i).head? ≠ some 48) → s.extract i s.size = dec (val s) := fun hh => by
      rw [← H4.out]
      refine dec_of_list _ _ ?_ (fun c hc => h c (List.mem_of_mem_drop hc)) (fun e => by have := congrArg List.length e; rw [List.length_drop, sz] at this; simp at this; omega) hh
      rw [extract_list, List.take_of_length_le (by rw [List.length_drop, sz]; exact Nat.le_refl _)]
    rw [customhouseref04_trim.l0, e0]
    have e1 : wrap64 ((i : Int) + 1) = ((i + 1 : Nat) : Int) := by rw [w64 (by omega) (by omega)]; omega
    by_cases hi : i < s.size - 1
    · rw [if_pos (by omega), if_pos (by omega), if_pos (by omega), bt_get s i hl]
      have ed := List.drop_eq_getElem_cons hl
      by_cases hb : ((s.data.toList[i]'hl).toNat : Int) = 48
      · rw [if_pos hb, e1]
        refine ih k (i + 1) (by omega) (by omega) (by omega) ?_
        rw [← H4.out, ed, dval_cons, show (s.data.toList[i]'hl).toNat - 48 = 0 by omega, Nat.zero_mul, Nat.zero_add]
      · rw [if_neg hb, if_pos (by omega)]
        refine congrArg some ?_
        rw [Int.toNat_natCast]
        refine fin (.inr ?_)
        rw [ed, List.head?_cons]
        intro e
        have := Option.some.inj e
        exact hb (by rw [this]; decide)
    · rw [if_neg (by omega), if_pos (by omega), if_pos (by omega), Int.toNat_natCast]
      refine congrArg some (fin (.inl ?_))
      rw [List.length_drop, sz]; omega
theorem ref_trim (k : Nat) (s : ByteArray) (h : digs s) (hs : s.size ≤ 1000000) (h0 : s.size ≠ 0) (hk : s.size ≤ k) : customhouseref04_trim.f k s = some (dec (val s)) :=
  ref_trim_l s h hs s.size k 0 (by omega) (by omega) hk (by rw [List.drop_zero]; rfl)

/-! value -/
theorem ref_value_l (s : ByteArray) (h : digs s) (hs : s.size ≤ 18) : ∀ (d k i : Nat), s.size - i = d → i ≤ s.size → d < k →
    customhouseref04_value.l0 k s ((dval (s.data.toList.take i) : Nat) : Int) (i : Int) = some ((val s : Nat) : Int) := by
  intro d
  induction d with
  | zero =>
    intro k i h1 h2 h3
    obtain ⟨k, rfl⟩ : ∃ j, k = j + 1 := ⟨k - 1, by omega⟩
    rw [customhouseref04_value.l0, if_neg (by omega), List.take_of_length_le (by rw [sz]; omega)]
    rfl
  | succ d ih =>
    intro k i h1 h2 h3
    obtain ⟨k, rfl⟩ : ∃ j, k = j + 1 := ⟨k - 1, by omega⟩
    have hl : i < s.data.toList.length := by rw [sz]; omega
    have e1 : wrap64 ((i : Int) + 1) = ((i + 1 : Nat) : Int) := by rw [w64 (by omega) (by omega)]; omega
    have hc := h _ (List.getElem_mem hl)
    have hb := dval_lt (l := s.data.toList.take i) (fun c hc => h c (List.mem_of_mem_take hc))
    rw [List.length_take, sz, show min i s.size = i by omega] at hb
    have hb2 : 10 ^ i ≤ 10 ^ 17 := Nat.pow_le_pow_right (by omega) (by omega)
    have et : dval (s.data.toList.take (i + 1)) = dval (s.data.toList.take i) * 10 + ((s.data.toList[i]'hl).toNat - 48) := by
      rw [List.take_succ_eq_append_getElem hl, dval_append, dval_one]; rfl
    unfold dig at hc
    rw [customhouseref04_value.l0, if_pos (by omega), if_pos (by omega), bt_get s i hl, e1]
    rw [← ih k (i + 1) (by omega) (by omega) (by omega), et]
    generalize dval (s.data.toList.take i) = V at *
    generalize (s.data.toList[i]'hl).toNat = c at *
    congr 1
    rw [w64 (n := (V : Int) * 10) (by omega) (by omega), w64 (by omega) (by omega)]
    omega
theorem ref_value (k : Nat) (s : ByteArray) (h : digs s) (hs : s.size ≤ 18) (hk : s.size < k) : customhouseref04_value.f k s = some ((val s : Nat) : Int) :=
  ref_value_l s h hs s.size k 0 (by omega) (by omega) hk
end Go.Proofs.YtdojfnjgipeogaaGreatDoor
/- The reference's functions over digits, as plain laws: text, Minus, Over, Common, Div, Gcd; and the law DividesAsReference. -/
namespace Go.Proofs.YtdojfnjgipeogaaGreatDoor
open Go.RowKit Go.Shelf Go.Proofs.YtdojfnjgipeogaaGreatDoorW.PrintWords Go.Proofs.YtdojfnjgipeogaaGreatDoorW.PrintMore NatB La
set_option linter.unusedSimpArgs false
set_option linter.unusedVariables false

/-! text -/
def numT : List Int → Nat
  | [] => 0
  | x :: l => x.toNat + 10 * numT l
def d9 (l : List Int) : Prop := ∀ x ∈ l, 0 ≤ x ∧ x ≤ 9
def up (l : List Int) : List Int := (l.map (fun x => 48 + x)).reverse
theorem numT_snoc : ∀ (l : List Int) (x : Int), numT (l ++ [x]) = numT l + x.toNat * 10 ^ l.length
  | [], x => by simp [numT]
  | y :: l, x => by
    rw [List.cons_append, numT, numT, numT_snoc l x, List.length_cons, Nat.pow_succ, Nat.mul_add, Nat.mul_comm (10 ^ l.length) 10, Nat.mul_left_comm, Nat.add_assoc]
theorem numT_lt : ∀ (l : List Int), d9 l → numT l < 10 ^ l.length
  | [], _ => by simp [numT]
  | x :: l, h => by
    have ih := numT_lt l (fun y hy => h y (List.mem_cons_of_mem _ hy))
    have hx := h x List.mem_cons_self
    rw [numT, List.length_cons, Nat.pow_succ]
    generalize 10 ^ l.length = P at *
    omega
theorem up_digs : ∀ (l : List Int), d9 l → digs (strOfNums (up l)) ∧ val (strOfNums (up l)) = numT l
  | [], _ => ⟨fun c hc => by simp [strOfNums, up] at hc, rfl⟩
  | x :: l, h => by
    have ih := up_digs l (fun y hy => h y (List.mem_cons_of_mem _ hy))
    have hx := h x List.mem_cons_self
    have e : (strOfNums (up (x :: l))).data.toList = (strOfNums (up l)).data.toList ++ [UInt8.ofNat (48 + x).toNat] := by
      simp [strOfNums, up]
    have ht : (UInt8.ofNat (48 + x).toNat).toNat = 48 + x.toNat := by
      rw [UInt8.toNat_ofNat']; omega
    unfold digs val at *
    rw [e]
    refine ⟨fun c hc => ?_, ?_⟩
    · rcases List.mem_append.1 hc with hc | hc
      · exact ih.1 c hc
      · rw [List.mem_singleton.1 hc]; unfold dig; omega
    · rw [dval_append, dval_one, ih.2, numT, List.length_singleton, Nat.pow_one, ht]; omega
theorem up_len (l : List Int) : (up l).length = l.length := by simp [up]
theorem rd_get (l : List Int) (i : Nat) (h : i < l.length) : rd l (i : Int) = l[i] := by
  unfold rd
  rw [Int.toNat_natCast, List.getD_eq_getElem?_getD, List.getElem?_eq_getElem h]
  rfl
theorem ref_text_l (l : List Int) (hd : d9 l) (h0 : l ≠ []) (hl : l.length ≤ 100000) : ∀ (d k i : Nat), l.length - i = d → i ≤ l.length → d + l.length < k →
    customhouseref04_text.l0 k l (List.replicate (l.length - i) 0 ++ up (l.take i)) (i : Int) = some (dec (numT l)) := by
  have hl0 : l.length ≠ 0 := fun e => h0 (List.eq_nil_of_length_eq_zero e)
  intro d
  induction d with
  | zero =>
    intro k i h1 h2 h3
    obtain ⟨k, rfl⟩ : ∃ j, k = j + 1 := ⟨k - 1, by omega⟩
    obtain rfl : i = l.length := by omega
    rw [customhouseref04_text.l0, if_neg (by omega), Nat.sub_self, List.replicate_zero, List.nil_append, List.take_length]
    obtain ⟨u1, u2⟩ := up_digs l hd
    have us : (strOfNums (up l)).size = l.length := by rw [strOfNums_size, up_len]
    rw [ref_trim k _ u1 (by rw [us]; omega) (by rw [us]; exact hl0) (by rw [us]; omega), u2]
    rfl
  | succ d ih =>
    intro k i h1 h2 h3
    obtain ⟨k, rfl⟩ : ∃ j, k = j + 1 := ⟨k - 1, by omega⟩
    have hi : i < l.length := by omega
    have hx := hd _ (List.getElem_mem hi)
    have e0 : wrap64 (wrap64 ((l.length : Int) - 1) - (i : Int)) = ((l.length - 1 - i : Nat) : Int) := by
      rw [w64 (n := (l.length : Int) - 1) (by omega) (by omega), w64 (by omega) (by omega)]; omega
    have e1 : wrap64 ((i : Int) + 1) = ((i + 1 : Nat) : Int) := by rw [w64 (by omega) (by omega)]; omega
    have eu : up (l.take (i + 1)) = (48 + l[i]) :: up (l.take i) := by
      rw [List.take_succ_eq_append_getElem hi]; unfold up; rw [List.map_append, List.reverse_append]; rfl
    have es : (List.replicate (l.length - i) (0 : Int) ++ up (l.take i)).set (l.length - 1 - i) (48 + l[i]) = List.replicate (l.length - (i + 1)) 0 ++ up (l.take (i + 1)) := by
      rw [eu, show l.length - i = (l.length - 1 - i) + 1 by omega, List.replicate_succ', List.append_assoc, List.set_append_right _ _ (by simp), List.length_replicate, Nat.sub_self, show l.length - (i + 1) = l.length - 1 - i by omega]
      rfl
    rw [customhouseref04_text.l0, if_pos (by omega), if_pos (by omega), e0, if_pos (by omega), if_pos (by simp [up_len]; omega), e1, rd_get l i hi, w64 (n := 48 + l[i]) (by omega) (by omega), Int.toNat_natCast,
      show (48 + l[i]) % 256 = 48 + l[i] by omega, es]
    exact ih k (i + 1) (by omega) (by omega) (by omega)
theorem ref_text (k : Nat) (l : List Int) (hd : d9 l) (h0 : l ≠ []) (hl : l.length ≤ 100000) (hk : 2 * l.length < k) : customhouseref04_text.f k l = some (dec (numT l)) := by
  unfold customhouseref04_text.f
  rw [if_pos (by omega), if_pos (by rw [Int.toNat_natCast]; omega), Int.toNat_natCast]
  have := ref_text_l l hd h0 hl l.length k 0 (by omega) (by omega) (by omega)
  rw [List.take_zero] at this
  simpa [up] using this

/-! Minus -/
theorem minus_step (N B A P da db bo y c : Nat) (hc : c = 0 ∨ c = 1) (h : N + B = A + bo * P) (hy : y + db + bo = da + 10 * c) : N + y * P + (B + P * db) = (A + P * da) + c * (P * 10) := by
  have e := congrArg (· * P) hy
  simp only [Nat.add_mul] at e
  rw [Nat.mul_comm P db, Nat.mul_comm P da]
  rcases hc with rfl | rfl <;> omega
theorem minus_end (N A B bo P : Nat) (h : N + B = A + bo * P) (hb : bo ≤ 1) (hN : N < P) (hBA : B ≤ A) : N = A - B := by
  rcases (by omega : bo = 0 ∨ bo = 1) with rfl | rfl <;> omega
theorem ref_Minus_l (a b : ByteArray) (ha : digs a) (hb : digs b) (hs : a.size ≤ 1000) (ht : b.size ≤ 1000) (h0 : a.size ≠ 0) (hle : RowKit.Hid (val b ≤ val a)) : ∀ (d k i : Nat) (out : List Int) (bo : Nat), a.size - i = d → i ≤ a.size → d + 2 * a.size + 1 < k →
    out.length = i → d9 out → bo ≤ 1 → RowKit.Hid (numT out + val b % 10 ^ i = val a % 10 ^ i + bo * 10 ^ i) → customhouseref04_Minus.l0 k a b out (bo : Int) (i : Int) = some (dec (val a - val b)) := by
  intro d
  induction d with
  | zero =>
    intro k i out bo h1 h2 h3 h4 h5 h6 h7
    obtain ⟨k, rfl⟩ : ∃ j, k = j + 1 := ⟨k - 1, by omega⟩
    obtain rfl : i = a.size := by omega
    rw [customhouseref04_Minus.l0, if_neg (by omega)]
    rw [ref_text k out h5 (fun e => by rw [e] at h4; exact h0 h4.symm) (by omega) (by omega)]
    have hlt := val_ltD a ha
    have hN := numT_lt out h5
    have h7 := h7.out
    rw [h4] at hN
    rw [Nat.mod_eq_of_lt hlt, Nat.mod_eq_of_lt (Nat.lt_of_le_of_lt hle.out hlt)] at h7
    rw [minus_end _ _ _ _ _ h7 h6 hN hle.out]
    rfl
  | succ d ih =>
    intro k i out bo h1 h2 h3 h4 h5 h6 h7
    obtain ⟨k, rfl⟩ : ∃ j, k = j + 1 := ⟨k - 1, by omega⟩
    have e1 : wrap64 ((i : Int) + 1) = ((i + 1 : Nat) : Int) := by rw [w64 (by omega) (by omega)]; omega
    rw [customhouseref04_Minus.l0, if_pos (by omega), ref_digit a ha (by omega) i, Option.bind_some, ref_digit b hb (by omega) i, Option.bind_some]
    have ma := Nat.mod_pow_succ (x := val a) (b := 10) (k := i)
    have mb := Nat.mod_pow_succ (x := val b) (b := 10) (k := i)
    have hda : val a / 10 ^ i % 10 < 10 := Nat.mod_lt _ (by omega)
    have hdb : val b / 10 ^ i % 10 < 10 := Nat.mod_lt _ (by omega)
    have IH := ih k (i + 1)
    clear ih
    have step : ∀ (y c : Nat), (c = 0 ∨ c = 1) → y ≤ 9 → y + val b / 10 ^ i % 10 + bo = val a / 10 ^ i % 10 + 10 * c → customhouseref04_Minus.l0 k a b (out ++ [(y : Int)]) (c : Int) ((i + 1 : Nat) : Int) = some (dec (val a - val b)) := fun y c hc hy he => by
      refine IH (out ++ [(y : Int)]) c (by omega) (by omega) (by omega) (by simp [h4]) ?_ (by omega) ?_
      · intro x hx
        rcases List.mem_append.1 hx with hx | hx
        · exact h5 x hx
        · rw [List.mem_singleton.1 hx]; omega
      · show _ = _
        rw [numT_snoc, h4, ma, mb, Int.toNat_natCast, Nat.pow_succ]
        exact minus_step _ _ _ _ _ _ _ _ _ hc h7.out he
    clear ma mb h7 IH
    generalize val a / 10 ^ i % 10 = da at *
    generalize val b / 10 ^ i % 10 = db at *
    have ew : wrap64 (wrap64 ((da : Int) - (db : Int)) - (bo : Int)) = (da : Int) - (db : Int) - (bo : Int) := by rw [w64 (n := (da : Int) - (db : Int)) (by omega) (by omega), w64 (by omega) (by omega)]
    rw [ew, e1]
    by_cases hn : (da : Int) - (db : Int) - (bo : Int) < 0
    · rw [if_pos hn, if_pos (by omega), w64 (n := (da : Int) - (db : Int) - (bo : Int) + 10) (by omega) (by omega)]
      have := step (da + 10 - db - bo) 1 (.inr rfl) (by omega) (by omega)
      rw [show ((da + 10 - db - bo : Nat) : Int) = (da : Int) - (db : Int) - (bo : Int) + 10 by omega] at this
      exact this
    · rw [if_neg hn, if_pos (by omega)]
      have := step (da - db - bo) 0 (.inl rfl) (by omega) (by omega)
      rw [show ((da - db - bo : Nat) : Int) = (da : Int) - (db : Int) - (bo : Int) by omega] at this
      exact this
theorem ref_Minus (k : Nat) (a b : ByteArray) (ha : digs a) (hb : digs b) (hs : a.size ≤ 1000) (ht : b.size ≤ 1000) (h0 : a.size ≠ 0) (hle : val b ≤ val a) (hk : 3 * a.size + 1 < k) : customhouseref04_Minus.f k a b = some (dec (val a - val b)) :=
  ref_Minus_l a b ha hb hs ht h0 hle a.size k 0 [] 0 (by omega) (by omega) (by omega) rfl (fun x hx => by cases hx) (by omega) (by show _ = _; simp [numT, Nat.mod_one])

/-! Over -/
theorem app_list (a b : ByteArray) : (a ++ b).data.toList = a.data.toList ++ b.data.toList := by rw [ByteArray.data_append, Array.toList_append]
theorem snoc_nums (q : List Int) (t : Nat) : (strOfNums (q ++ [((48 + t : Nat) : Int)])).data.toList = (strOfNums q).data.toList ++ [UInt8.ofNat (48 + t)] := by
  show List.map _ (q ++ [_]) = List.map _ q ++ [_]
  rw [List.map_append]
  rfl
theorem over_in (a b : ByteArray) (hb : isD b) (hbs : b.size ≤ 1000) (q : List Int) (hq : q.length ≤ 1000) (i T : Nat) (hi : i ≤ 1000) (K : Nat) (R : Option (ByteArray × ByteArray)) (hK : 4000 ≤ K) (hb0 : 0 < val b)
    (cont : ∀ k, K ≤ k → customhouseref04_Over.l0 k a b (q ++ [((48 + T / val b : Nat) : Int)]) (dec (T % val b)) ((i + 1 : Nat) : Int) = R) (m : Nat) (hm : m ≤ 899) (hT : T < 10 ^ (m + 1)) :
    ∀ (c k t V : Nat), T = V + t * val b → V < (c + 1) * val b → t + c ≤ 20 → K + c < k → customhouseref04_Over.l1 k a b q (dec V) (i : Int) ((48 + t : Nat) : Int) = R := by
  have hts : ∀ V, V ≤ T → (dec V).size ≤ 900 := fun V hV => by
    have := dec_le V m (Nat.lt_of_le_of_lt hV hT)
    exact Nat.le_trans this (Nat.succ_le_succ hm)
  have hT' := Lib.hid hT
  clear hT
  intro c
  induction c with
  | zero =>
    intro k t V h1 h2 h3 h4
    obtain ⟨k, rfl⟩ : ∃ j, k = j + 1 := ⟨k - 1, by omega⟩
    have hV : V < val b := by rw [Nat.zero_add, Nat.one_mul] at h2; exact h2
    rw [customhouseref04_Over.l1, ref_Order k _ _ (D_dec V) hb (by omega), Option.bind_some, val_dec]
    have hc : ¬ cmpI (V : Int) (val b : Int) ≥ 0 := by unfold cmpI; rw [if_pos (by omega)]; omega
    have ht : T / val b = t ∧ T % val b = V := by
      rw [h1, Nat.add_mul_div_right _ _ hb0, Nat.div_eq_of_lt hV, Nat.zero_add, Nat.add_mul_mod_self_right, Nat.mod_eq_of_lt hV]
      exact ⟨rfl, rfl⟩
    rw [if_neg hc, if_pos (by omega), w64 (n := (i : Int) + 1) (by omega) (by omega)]
    have := cont k (by omega)
    rw [ht.1, ht.2] at this
    exact this
  | succ c ih =>
    intro k t V h1 h2 h3 h4
    by_cases hV : V < val b
    · exact ih k t V h1 (Nat.lt_of_lt_of_le hV (Nat.le_mul_of_pos_left _ (by omega))) (by omega) (by omega)
    · obtain ⟨k, rfl⟩ : ∃ j, k = j + 1 := ⟨k - 1, by omega⟩
      have hVT : V ≤ T := by rw [h1]; exact Nat.le_add_right _ _
      have hsz := hts V hVT
      rw [customhouseref04_Over.l1, ref_Order k _ _ (D_dec V) hb (by omega), Option.bind_some, val_dec]
      have hc : cmpI (V : Int) (val b : Int) ≥ 0 := by unfold cmpI; rw [if_neg (by omega)]; split <;> omega
      rw [if_pos hc, ref_Minus k _ _ (D_dec V).2.1 hb.2.1 (by omega) hbs (D_dec V).1 (by rw [val_dec]; omega) (by omega), Option.bind_some, val_dec]
      rw [show (((48 + t : Nat) : Int) + 1) % 256 = ((48 + (t + 1) : Nat) : Int) by omega]
      refine ih k (t + 1) (V - val b) ?_ ?_ (by omega) (by omega)
      · rw [h1, Nat.add_mul, Nat.one_mul]; generalize t * val b = x; omega
      · rw [Nat.add_mul, Nat.one_mul] at h2; omega
theorem div_mod_snoc (V d m : Nat) (hm : 0 < m) : (V * 10 + d) / m = V / m * 10 + ((V % m) * 10 + d) / m ∧ (V * 10 + d) % m = ((V % m) * 10 + d) % m := by
  have e : V * 10 + d = ((V % m) * 10 + d) + m * (V / m * 10) := by
    have h := Nat.mod_add_div V m
    have h2 : m * (V / m * 10) = m * (V / m) * 10 := by rw [Nat.mul_assoc]
    rw [h2]
    generalize m * (V / m) = x at *
    omega
  constructor
  · rw [e, Nat.add_mul_div_left _ _ hm, Nat.add_comm]
  · rw [e, Nat.add_mul_mod_self_left]
theorem dval_snoc (l : List UInt8) (c : UInt8) : dval (l ++ [c]) = dval l * 10 + (c.toNat - 48) := by rw [dval_append, dval_one]; rfl
theorem lt_Z (R c y Y Z : Nat) (hr : R < y) (hbl : y < Y) (h10 : Y * 10 ≤ Z) (hc : c ≤ 57) : R * 10 + (c - 48) < Z := by omega
theorem lt_ten (R c y : Nat) (hr : R < y) (hc : c ≤ 57) : R * 10 + (c - 48) < y * 10 := by omega
theorem lt_more (R c y : Nat) (hr : R < y) (hc : c ≤ 57) : R * 10 + (c - 48) < (10 + 1) * y := by omega
theorem dig_nat (z : Nat) (h : z ≤ 9) : (UInt8.ofNat (48 + z)).toNat = 48 + z ∧ dig (UInt8.ofNat (48 + z)) := by
  have e : (UInt8.ofNat (48 + z)).toNat = 48 + z := by rw [UInt8.toNat_ofNat']; omega
  exact ⟨e, by unfold dig; rw [e]; omega⟩
theorem over_l (a b : ByteArray) (ha : digs a) (hb : isD b) (has : a.size ≤ 400) (hbs : b.size ≤ 400) (hb0 : RowKit.Hid (0 < val b)) : ∀ (d k i : Nat) (q : List Int) (rest : ByteArray), a.size - i = d → i ≤ a.size → 30 * d + 4100 ≤ k →
    digs (strOfNums q) → q.length ≤ i → (d = 0 → q ≠ [] ∧ rest = dec (val rest)) → digs rest → rest.size ≤ 402 →
    RowKit.Hid (val (strOfNums q) = dval (a.data.toList.take i) / val b ∧ val rest = dval (a.data.toList.take i) % val b) →
    customhouseref04_Over.l0 k a b q rest (i : Int) = some (dec (val a / val b), dec (val a % val b)) := by
  intro d
  induction d with
  | zero =>
    intro k i q rest h1 h2 h3 h4 h5 h6 h7 h8 h9
    obtain ⟨k, rfl⟩ : ∃ j, k = j + 1 := ⟨k - 1, by omega⟩
    obtain rfl : i = a.size := by omega
    obtain ⟨g1, g2⟩ := h6 rfl
    have gs : (strOfNums q).size = q.length := strOfNums_size q
    have gl : q.length ≠ 0 := fun e => g1 (List.eq_nil_of_length_eq_zero e)
    have g3 : (strOfNums q).size ≤ 1000000 := by omega
    have g4 : (strOfNums q).size ≠ 0 := by omega
    have g5 : (strOfNums q).size ≤ k := by omega
    have g6 : ¬ ((a.size : Int) < (a.size : Int)) := by omega
    rw [customhouseref04_Over.l0, if_neg g6, ref_trim k _ h4 g3 g4 g5, Option.bind_some, g2, h9.out.1, h9.out.2, List.take_of_length_le (by rw [sz]; exact Nat.le_refl _)]
    rfl
  | succ d ih =>
    intro k i q rest h1 h2 h3 h4 h5 h6 h7 h8 h9
    obtain ⟨k, rfl⟩ : ∃ j, k = j + 1 := ⟨k - 1, by omega⟩
    clear h6
    have c1 : (i : Int) < (a.size : Int) := by omega
    have c2 : (0 : Int) ≤ (i : Int) := by omega
    have c3 : (i : Int) ≤ ((i + 1 : Nat) : Int) := by omega
    have c4 : ((i + 1 : Nat) : Int) ≤ (a.size : Int) := by omega
    have c5 : rest.size + 1 ≤ 9223372036854775807 := by omega
    have c6 : rest.size + 1 ≤ 1000000 := by omega
    have c7 : rest.size + 1 ≤ k := by omega
    have c8 : a.size - (i + 1) = d := by omega
    have c9 : i + 1 ≤ a.size := by omega
    have ca : q.length + 1 ≤ i + 1 := by omega
    have cb : q.length ≤ 1000 := by omega
    have cc : i ≤ 1000 := by omega
    have cd : 30 * d + 4100 + 10 < k := by omega
    have ce : b.size + 1 ≤ 900 := by omega
    have cf : b.size ≤ 1000 := by omega
    have hi : i < a.data.toList.length := by rw [sz]; omega
    have e1 : wrap64 ((i : Int) + 1) = ((i + 1 : Nat) : Int) := by rw [w64 (by omega) (by omega)]; omega
    have hc := ha _ (List.getElem_mem hi)
    have ex : (a.extract i (i + 1)).data.toList = [a.data.toList[i]] := by
      rw [extract_list, show i + 1 - i = 1 by omega, List.drop_eq_getElem_cons hi]; rfl
    have exs : (a.extract i (i + 1)).size = 1 := by rw [← sz, ex]; rfl
    have et : dval (a.data.toList.take (i + 1)) = dval (a.data.toList.take i) * 10 + ((a.data.toList[i]'hi).toNat - 48) := by
      rw [List.take_succ_eq_append_getElem hi, dval_snoc]
    have er : (rest ++ a.extract i (i + 1)).data.toList = rest.data.toList ++ [a.data.toList[i]] := by rw [app_list, ex]
    have ers : (rest ++ a.extract i (i + 1)).size = rest.size + 1 := by rw [← sz, er, List.length_append, sz]; rfl
    have ed : digs (rest ++ a.extract i (i + 1)) := by
      unfold digs; rw [er]; intro c hc'
      rcases List.mem_append.1 hc' with hc' | hc'
      · exact h7 c hc'
      · rw [List.mem_singleton.1 hc']; exact hc
    have ev : val (rest ++ a.extract i (i + 1)) = val rest * 10 + ((a.data.toList[i]'hi).toNat - 48) := by
      unfold val; rw [er, dval_snoc]
    rw [customhouseref04_Over.l0, if_pos c1, if_pos c2, e1, if_pos c3, if_pos c4, Int.toNat_natCast, Int.toNat_natCast, if_pos (by rw [exs]; exact c5), ref_trim k _ ed (by rw [ers]; exact c6) (by rw [ers]; exact Nat.succ_ne_zero _) (by rw [ers]; exact c7), Option.bind_some, ev]
    generalize hcc : (a.data.toList[i]'hi) = c at *
    unfold dig at hc
    have hr : val rest < val b := by rw [h9.out.2]; exact Nat.mod_lt _ hb0.out
    have hbl := val_ltD b hb.2.1
    have h10 : 10 ^ b.size * 10 ≤ 10 ^ (b.size + 1) := by rw [Nat.pow_succ]; exact Nat.le_refl _
    have hT : val rest * 10 + (c.toNat - 48) < 10 ^ (b.size + 1) := lt_Z _ _ _ _ _ hr hbl h10 hc.2
    obtain ⟨dm1, dm2⟩ := div_mod_snoc (dval (a.data.toList.take i)) (c.toNat - 48) (val b) hb0.out
    rw [← et, ← h9.out.2] at dm1 dm2
    rw [← h9.out.1] at dm1
    have hlt10 : (val rest * 10 + (c.toNat - 48)) / val b ≤ 9 := Nat.le_of_lt_succ (Nat.div_lt_of_lt_mul (lt_ten _ _ _ hr hc.2))
    have hms : (dec ((val rest * 10 + (c.toNat - 48)) % val b)).size ≤ 402 :=
      Nat.le_trans (dec_le ((val rest * 10 + (c.toNat - 48)) % val b) b.size (Nat.lt_of_lt_of_le (Nat.lt_trans (Nat.mod_lt _ hb0.out) hbl) (Nat.pow_le_pow_right (Nat.succ_pos 9) (Nat.le_succ _)))) (Nat.le_trans (Nat.succ_le_succ hbs) (by decide))
    obtain ⟨ht, hdz⟩ := dig_nat _ hlt10
    refine over_in a b hb cf q cb i (val rest * 10 + (c.toNat - 48)) cc (30 * d + 4100) _ (Nat.le_trans (by decide) (Nat.le_add_left 4100 (30 * d))) hb0.out ?_ b.size (Nat.le_of_succ_le_succ ce) hT 10 k 0 _ (by rw [Nat.zero_mul, Nat.add_zero]) (lt_more _ _ _ hr hc.2) (by decide) cd
    intro k' hk'
    refine ih k' (i + 1) _ _ c8 c9 hk' ?_ (by rw [List.length_append]; exact ca) (fun _ => ⟨by simp, by rw [val_dec]⟩) (D_dec _).2.1 hms ?_
    · unfold digs
      rw [snoc_nums]
      intro x hx
      rcases List.mem_append.1 hx with hx | hx
      · exact h4 x hx
      · rw [List.mem_singleton.1 hx]
        exact hdz
    · show _ ∧ _
      rw [val_dec]
      refine ⟨?_, dm2.symm⟩
      rw [dm1]
      unfold val
      rw [snoc_nums, dval_snoc]
      change _ + ((UInt8.ofNat (48 + (val rest * 10 + (c.toNat - 48)) / val b)).toNat - 48) = _
      rw [ht, Nat.add_sub_cancel_left]
      rfl
theorem ref_Over (k : Nat) (a b : ByteArray) (ha : isN a) (hb : isN b) (hb0 : val b ≠ 0) (hk : 14000 ≤ k) : customhouseref04_Over.f k a b = some (dec (val a / val b), dec (val a % val b)) := by
  have hDa := isD_of ha
  have hDb := isD_of hb
  have has := ha.2.1
  have hbs := hb.2.1
  unfold customhouseref04_Over.f
  rw [ref_Order k a b hDa hDb (by omega), Option.bind_some]
  by_cases hlt : val a < val b
  · have hc : cmpI (val a : Int) (val b : Int) < 0 := by unfold cmpI; rw [if_pos (by omega)]; omega
    rw [if_pos hc, Nat.div_eq_of_lt hlt, Nat.mod_eq_of_lt hlt, dec_D a hDa, dec_lit ⟨#[48]⟩ (by decide) 0 rfl]
  · have hc : ¬ cmpI (val a : Int) (val b : Int) < 0 := by unfold cmpI; rw [if_neg (by omega)]; split <;> omega
    rw [if_neg hc]
    by_cases h18 : a.size ≤ 18
    · have hbl : b.size ≤ 18 := by
        have h1 := val_ltD a hDa.2.1
        have h2 : val b < 10 ^ (17 + 1) := Nat.lt_of_le_of_lt (Nat.le_of_not_lt hlt) (Nat.lt_of_lt_of_le h1 (Nat.pow_le_pow_right (by omega) h18))
        have h3 := dec_le _ _ h2
        rw [dec_D b hDb] at h3
        exact h3
      have h1 : val a < 10 ^ 18 := Nat.lt_of_lt_of_le (val_ltD a hDa.2.1) (Nat.pow_le_pow_right (by omega) h18)
      rw [if_pos (by omega), ref_value k a hDa.2.1 h18 (by omega), ref_value k b hDb.2.1 hbl (by omega)]
      simp only [Option.bind_some]
      have hq : val a / val b ≤ val a := Nat.div_le_self _ _
      have hm : val a % val b ≤ val a := Nat.mod_le _ _
      have et : Int.tdiv (val a : Int) (val b : Int) = ((val a / val b : Nat) : Int) := by rw [Int.tdiv_eq_ediv_of_nonneg (by omega)]; rfl
      have em : Int.tmod (val a : Int) (val b : Int) = ((val a % val b : Nat) : Int) := by rw [Int.tmod_eq_emod_of_nonneg (by omega)]; rfl
      rw [if_neg (by omega), et, em]
      have hq2 : val a / val b < 9223372036854775808 := by generalize val a / val b = x at *; omega
      have hm2 : val a % val b < 9223372036854775808 := by generalize val a % val b = x at *; omega
      rw [w64 (n := ((val a / val b : Nat) : Int)) (by generalize val a / val b = x at *; omega) (by generalize val a / val b = x at *; omega), ref_Decimal k _ (by omega) hq2, Option.bind_some, if_neg (by omega), ref_Decimal k _ (by omega) hm2, Option.bind_some]
    · have hbl : b.size ≤ a.size := by
        have h1 := val_ltD a hDa.2.1
        have h2 : val b < 10 ^ (a.size - 1 + 1) := by rw [show a.size - 1 + 1 = a.size by omega]; exact Nat.lt_of_le_of_lt (Nat.le_of_not_lt hlt) h1
        have h3 := dec_le _ _ h2
        rw [dec_D b hDb] at h3
        omega
      have hb1 := hDb.1
      have e1 : wrap64 ((b.size : Int) - 1) = ((b.size - 1 : Nat) : Int) := by rw [w64 (by omega) (by omega)]; omega
      rw [if_neg (by omega), if_pos (by omega), if_pos (by rw [Int.toNat_natCast]; omega), e1, if_pos (by omega), if_pos (by omega), Int.toNat_natCast, List.replicate_zero]
      have ex : (a.extract 0 (b.size - 1)).data.toList = a.data.toList.take (b.size - 1) := by rw [extract_list, List.drop_zero, Nat.sub_zero]
      have exs : (a.extract 0 (b.size - 1)).size = b.size - 1 := by rw [← sz, ex, List.length_take, sz]; omega
      have hdg : digs (a.extract 0 (b.size - 1)) := by unfold digs; rw [ex]; exact fun c hc => hDa.2.1 c (List.mem_of_mem_take hc)
      have hv : val (a.extract 0 (b.size - 1)) = dval (a.data.toList.take (b.size - 1)) := by unfold val; rw [ex]
      have hsm : dval (a.data.toList.take (b.size - 1)) < val b := by
        have h1 := val_ltD _ hdg
        rw [exs, hv] at h1
        refine Nat.lt_of_lt_of_le h1 (Nat.le_of_not_lt fun h => ?_)
        rcases Nat.eq_zero_or_pos (b.size - 1) with h2 | h2
        · rw [h2, Nat.pow_zero] at h; exact hb0 (by omega)
        · rw [show b.size - 1 = b.size - 2 + 1 by omega] at h
          have h3 := dec_le _ _ h
          rw [dec_D b hDb] at h3
          omega
      refine over_l a b hDa.2.1 hDb (by omega) (by omega) (Lib.hid (Nat.pos_of_ne_zero hb0)) (a.size - (b.size - 1)) k (b.size - 1) [] _ rfl (by omega) (by omega) (fun c hc => by simp [strOfNums] at hc) (by simp) (fun h => by omega) hdg (by omega) ?_
      show _ ∧ _
      rw [hv, Nat.div_eq_of_lt hsm, Nat.mod_eq_of_lt hsm]
      exact ⟨rfl, rfl⟩

/-! Common, Div, Gcd -/
theorem tl48 (n : Nat) (hn : ok n) : ((dec n).toList = ([48] : List UInt8)) ↔ n = 0 := by
  have h : ((dec n).toList = ([48] : List UInt8)) ↔ dec n = ⟨#[48]⟩ := by
    rw [← tl]
    rw [show (⟨#[48]⟩ : ByteArray).toList = [48] by rw [Lib.toList_data]]
  rw [h, zero_val _ (isN_ok hn), val_dec]
theorem ref_Common (m n : Nat) (hm : ok m) (hn : ok n) : ∀ (c k : Nat), n ≤ c → 14001 + c ≤ k → customhouseref04_Common.l0 k (dec m) (dec n) = some (dec (Nat.gcd m n)) := by
  intro c
  induction c generalizing m n with
  | zero =>
    intro k h1 h2
    obtain ⟨k, rfl⟩ : ∃ j, k = j + 1 := ⟨k - 1, by omega⟩
    obtain rfl : n = 0 := by omega
    rw [customhouseref04_Common.l0, if_pos ((tl48 0 hn).2 rfl), Nat.gcd_zero_right]
  | succ c ih =>
    intro k h1 h2
    obtain ⟨k, rfl⟩ : ∃ j, k = j + 1 := ⟨k - 1, by omega⟩
    by_cases h0 : n = 0
    · subst h0
      rw [customhouseref04_Common.l0, if_pos ((tl48 0 hn).2 rfl), Nat.gcd_zero_right]
    · have hlt := Nat.mod_lt m (y := n) (by omega)
      rw [customhouseref04_Common.l0, if_neg (fun h => h0 ((tl48 n hn).1 h)), ref_Over k _ _ (isN_ok hm) (isN_ok hn) (by rw [val_dec]; exact h0) (by omega), Option.bind_some, val_dec, val_dec]
      show customhouseref04_Common.l0 k (dec n) (dec (m % n)) = _
      rw [ih n (m % n) hn (ok_le (Nat.le_of_lt hlt) hn) k (by omega) (by omega), Nat.gcd_comm m n, Nat.gcd_rec n m, Nat.gcd_comm]
theorem ref_Div (k : Nat) (a b : ByteArray) (hk : 14001 ≤ k) : customhouseref04_Div.f k a b = natural_Div.f a b := by
  obtain ⟨j, rfl⟩ : ∃ j, k = j + 1 := ⟨k - 1, by omega⟩
  unfold customhouseref04_Div.f
  rw [ref_Is _ a (by omega), Option.bind_some]
  by_cases ha : isN a
  · rw [decide_eq_true ha, if_pos rfl, ref_Is _ b (by omega), Option.bind_some]
    by_cases hb : isN b
    · rw [decide_eq_true hb, customhouseref04_Div.j0, if_neg (by simp)]
      have hz : (b.toList = ([48] : List UInt8)) ↔ val b = 0 := by
        have := tl48 (val b) (ok_val hb)
        rwa [dec_val b hb] at this
      by_cases h0 : val b = 0
      · rw [if_pos (hz.2 h0), div_z ha hb h0]
      · rw [if_neg (fun h => h0 (hz.1 h)), ref_Over j a b ha hb h0 (by omega), div_f ha hb h0]
        rfl
    · rw [decide_eq_false hb, customhouseref04_Div.j0, if_pos (by simp), div_n (fun h => hb h.2)]
  · rw [decide_eq_false ha, if_neg (by simp), customhouseref04_Div.j0, if_pos rfl, div_n (fun h => ha h.1)]
theorem ref_Gcd (k : Nat) (a b : ByteArray) (hk : 14001 + val b ≤ k) : customhouseref04_Gcd.f k a b = natural_Gcd.f a b := by
  unfold customhouseref04_Gcd.f
  rw [ref_Is _ a (by omega), Option.bind_some]
  by_cases ha : isN a
  · rw [decide_eq_true ha, if_pos rfl, ref_Is _ b (by omega), Option.bind_some]
    by_cases hb : isN b
    · rw [decide_eq_true hb, if_pos rfl, gcd_f ha hb]
      have := ref_Common (val a) (val b) (ok_val ha) (ok_val hb) (val b) k (Nat.le_refl _) hk
      rw [dec_val a ha, dec_val b hb] at this
      unfold customhouseref04_Common.f
      rw [this]
      rfl
    · rw [decide_eq_false hb, if_neg (by simp), gcd_n (fun h => hb h.2)]
  · rw [decide_eq_false ha, if_neg (by simp), gcd_n (fun h => ha h.1)]

theorem head_pure (k : Nat) : customhouselaw04_head.f (k + 1) = some true := by
  unfold customhouselaw04_head.f
  simp only [h1, h2, h3, h4, h5, h6, h7, Option.bind_some, Lib.toList_data]
  simp [customhouselaw04_head.j0, h8, h9, h10, h11, h12, Lib.toList_data]
theorem nat_Div_some (a b : ByteArray) : ∃ r, natural_Div.f a b = some r := ⟨_, rfl⟩
theorem nat_Gcd_some (a b : ByteArray) : ∃ r, natural_Gcd.f a b = some r := ⟨_, rfl⟩
theorem NaturalDividesAsReference_pure (a b : ByteArray) : ∃ k, customhouselaw04_NaturalDividesAsReference.f k a b = some true := by
  refine ⟨14002 + val b + 1, ?_⟩
  unfold customhouselaw04_NaturalDividesAsReference.f
  rw [head_pure, Option.bind_some]
  by_cases h : (a.size : Int) > 400
  · rw [if_pos h, customhouselaw04_NaturalDividesAsReference.j0, if_pos rfl]
  · rw [if_neg h, customhouselaw04_NaturalDividesAsReference.j0]
    by_cases g : (b.size : Int) > 400
    · rw [decide_eq_true g, if_pos rfl]
    · rw [decide_eq_false g, if_neg (by simp), ref_Div _ a b (by omega), ref_Gcd _ a b (by omega)]
      obtain ⟨r, hr⟩ := nat_Div_some a b
      obtain ⟨t, ht⟩ := nat_Gcd_some a b
      rw [hr, ht]
      simp
end Go.Proofs.YtdojfnjgipeogaaGreatDoor
