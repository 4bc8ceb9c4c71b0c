/- The plain laws' common ground: what the functions answer where both texts are numbers. -/
import Derived.Test.YtdojfnjgipeogaaDoorNatY
namespace Go.Proofs.YtdojfnjgipeogaaDoor
open Go.RowKit Go.Shelf Go.Proofs.YtdojfnjgipeogaaDoorW.PrintWords Go.Proofs.YtdojfnjgipeogaaDoorW.PrintMore NatB

def ok (n : Nat) : Prop := (dec n).size ≤ 300
instance (n : Nat) : Decidable (ok n) := inferInstanceAs (Decidable (_ ≤ _))
theorem lim_pos {n : Nat} (h : ok n) : lim n = (dec n, 0) := by unfold lim; rw [if_neg (by unfold ok at h; omega)]
theorem lim_neg {n : Nat} (h : ¬ ok n) : lim n = (⟨#[]⟩, 2) := by unfold lim; rw [if_pos (by unfold ok at h; omega)]
theorem isN_ok {n : Nat} (h : ok n) : isN (dec n) := (isN_dec n).2 h
theorem ok_val {s : ByteArray} (h : isN s) : ok (val s) := by unfold ok; rw [dec_val s h]; exact h.2.1
theorem ok_le {n m : Nat} (h : n ≤ m) (hm : ok m) : ok n := by
  unfold ok at *
  have h1 := dec_lt m
  have h2 : n < 10 ^ ((dec m).size - 1 + 1) := by
    rcases Nat.eq_zero_or_pos (dec m).size with h0 | h0
    · rw [h0] at h1
      refine Nat.lt_of_le_of_lt h (Nat.lt_of_lt_of_le h1 (Nat.pow_le_pow_right (by omega) (by omega)))
    · rw [show (dec m).size - 1 + 1 = (dec m).size by omega]
      exact Nat.lt_of_le_of_lt h h1
  have h3 := dec_le n _ h2
  omega
theorem nil_not : ¬ isN ⟨#[]⟩ := fun h => h.1 rfl
theorem is_t {s : ByteArray} (h : isN s) : natural_Is.f s = some true := by unfold natural_Is.f; rw [decide_eq_true h]
theorem is_n {s : ByteArray} (h : ¬ isN s) : natural_Is.f s = some false := by unfold natural_Is.f; rw [decide_eq_false h]
theorem add_f {a b : ByteArray} (ha : isN a) (hb : isN b) : natural_Add.f a b = some (lim (val a + val b)) := by unfold natural_Add.f; rw [if_pos ⟨ha, hb⟩]
theorem mul_f {a b : ByteArray} (ha : isN a) (hb : isN b) : natural_Mul.f a b = some (lim (val a * val b)) := by unfold natural_Mul.f; rw [if_pos ⟨ha, hb⟩]
theorem gcd_f {a b : ByteArray} (ha : isN a) (hb : isN b) : natural_Gcd.f a b = some (dec (Nat.gcd (val a) (val b)), 0) := by
  unfold natural_Gcd.f
  rw [if_pos ⟨ha, hb⟩, lim_pos]
  rcases Nat.eq_zero_or_pos (val a) with h | h
  · rw [h, Nat.gcd_zero_left]; exact ok_val hb
  · exact ok_le (Nat.gcd_le_left _ h) (ok_val ha)
theorem sub_f {a b : ByteArray} (ha : isN a) (hb : isN b) (h : val b ≤ val a) : natural_Sub.f a b = some (dec (val a - val b), 0) := by
  unfold natural_Sub.f; rw [if_pos ⟨ha, hb⟩, if_pos h, lim_pos (ok_le (Nat.sub_le _ _) (ok_val ha))]
theorem sub_r {a b : ByteArray} (ha : isN a) (hb : isN b) (h : ¬ val b ≤ val a) : natural_Sub.f a b = some (⟨#[]⟩, 10) := by
  unfold natural_Sub.f; rw [if_pos ⟨ha, hb⟩, if_neg h]
theorem div_f {a b : ByteArray} (ha : isN a) (hb : isN b) (h : val b ≠ 0) : natural_Div.f a b = some (dec (val a / val b), dec (val a % val b), 0) := by
  unfold natural_Div.f
  rw [if_pos ⟨ha, hb⟩, if_neg h, lim_pos (ok_le (Nat.div_le_self _ _) (ok_val ha)), lim_pos (ok_le (Nat.mod_le _ _) (ok_val ha))]
theorem div_z {a b : ByteArray} (ha : isN a) (hb : isN b) (h : val b = 0) : natural_Div.f a b = some (⟨#[]⟩, ⟨#[]⟩, 15) := by
  unfold natural_Div.f; rw [if_pos ⟨ha, hb⟩, if_pos h]
theorem cmp_f {a b : ByteArray} (ha : isN a) (hb : isN b) : natural_Compare.f a b = some (cmpI (val a : Int) (val b : Int), 0) := by unfold natural_Compare.f; rw [if_pos ⟨ha, hb⟩]
theorem add_n {a b : ByteArray} (h : ¬ (isN a ∧ isN b)) : natural_Add.f a b = some (⟨#[]⟩, 1) := by unfold natural_Add.f; rw [if_neg h]; rfl
theorem mul_n {a b : ByteArray} (h : ¬ (isN a ∧ isN b)) : natural_Mul.f a b = some (⟨#[]⟩, 1) := by unfold natural_Mul.f; rw [if_neg h]; rfl
theorem sub_n {a b : ByteArray} (h : ¬ (isN a ∧ isN b)) : natural_Sub.f a b = some (⟨#[]⟩, 1) := by unfold natural_Sub.f; rw [if_neg h]; rfl
theorem gcd_n {a b : ByteArray} (h : ¬ (isN a ∧ isN b)) : natural_Gcd.f a b = some (⟨#[]⟩, 1) := by unfold natural_Gcd.f; rw [if_neg h]; rfl
theorem cmp_n {a b : ByteArray} (h : ¬ (isN a ∧ isN b)) : natural_Compare.f a b = some (0, 1) := by unfold natural_Compare.f; rw [if_neg h]
theorem div_n {a b : ByteArray} (h : ¬ (isN a ∧ isN b)) : natural_Div.f a b = some (⟨#[]⟩, ⟨#[]⟩, 1) := by unfold natural_Div.f; rw [if_neg h]
/-- A numeral that is written out. -/
theorem dec_lit (s : ByteArray) (h : isN s) (n : Nat) (hn : val s = n) : dec n = s := by rw [← hn]; exact dec_val s h
theorem tl {a b : ByteArray} : a.toList = b.toList ↔ a = b := by
  rw [Lib.toList_data, Lib.toList_data]
  constructor
  · intro h
    obtain ⟨⟨l⟩⟩ := a
    obtain ⟨⟨m⟩⟩ := b
    simp only at h
    rw [h]
  · rintro rfl; rfl

/-! The examples. -/
theorem h1 : natural_Mul.f ⟨#[49, 50]⟩ ⟨#[49, 50]⟩ = some (⟨#[49, 52, 52]⟩, 0) := by
  rw [mul_f (by decide) (by decide), show val ⟨#[49, 50]⟩ * val ⟨#[49, 50]⟩ = val ⟨#[49, 52, 52]⟩ from rfl, lim_pos (ok_val (by decide)), dec_val _ (by decide)]
theorem h2 : natural_Sub.f ⟨#[53]⟩ ⟨#[55]⟩ = some (⟨#[]⟩, 10) := sub_r (by decide) (by decide) (by decide)
theorem h3 : natural_Div.f ⟨#[49, 48, 48]⟩ ⟨#[55]⟩ = some (⟨#[49, 52]⟩, ⟨#[50]⟩, 0) := by
  rw [div_f (by decide) (by decide) (by decide), dec_lit ⟨#[49, 52]⟩ (by decide) (val ⟨#[49, 48, 48]⟩ / val ⟨#[55]⟩) rfl, dec_lit ⟨#[50]⟩ (by decide) (val ⟨#[49, 48, 48]⟩ % val ⟨#[55]⟩) rfl]
theorem h4 : natural_Div.f ⟨#[55]⟩ ⟨#[48]⟩ = some (⟨#[]⟩, ⟨#[]⟩, 15) := div_z (by decide) (by decide) rfl
theorem h5 : natural_Gcd.f ⟨#[49, 50]⟩ ⟨#[49, 56]⟩ = some (⟨#[54]⟩, 0) := by
  rw [gcd_f (by decide) (by decide), dec_lit ⟨#[54]⟩ (by decide) _ (by decide)]
theorem h6 : natural_Gcd.f ⟨#[48]⟩ ⟨#[48]⟩ = some (⟨#[48]⟩, 0) := by
  rw [gcd_f (by decide) (by decide), dec_lit ⟨#[48]⟩ (by decide) _ (by decide)]
theorem h7 : natural_Int.f ⟨#[57, 50, 50, 51, 51, 55, 50, 48, 51, 54, 56, 53, 52, 55, 55, 53, 56, 48, 56]⟩ = some (0, 10) := by
  unfold natural_Int.f
  rw [if_pos (by decide), if_neg (by decide)]
theorem h8 : natural_Of.f (-1) = some ⟨#[]⟩ := rfl
theorem h9 : natural_Is.f ⟨#[48]⟩ = some true := is_t (by decide)
theorem h10 : natural_Is.f ⟨#[48, 48]⟩ = some false := is_n (by decide)
theorem h11 : natural_Is.f ⟨#[]⟩ = some false := is_n (by decide)
theorem h12 : natural_Is.f ⟨#[49, 50]⟩ = some true := is_t (by decide)
end Go.Proofs.YtdojfnjgipeogaaDoor
