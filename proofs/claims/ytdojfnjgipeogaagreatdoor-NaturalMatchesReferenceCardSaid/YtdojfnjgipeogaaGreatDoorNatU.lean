/- The text of a number's limbs is its numeral; numerals and values are inverse. -/
import Derived.Test.YtdojfnjgipeogaaGreatDoorNatS
namespace Go.Proofs.YtdojfnjgipeogaaGreatDoor
open Go.RowKit Go.Proofs.YtdojfnjgipeogaaGreatDoorW.PrintWords Go.Proofs.YtdojfnjgipeogaaGreatDoorW.PrintMore In NatB

/-- Exactly j digits. -/
def pad : Nat → Nat → List UInt8
  | 0, _ => []
  | j + 1, r => pad j (r / 10) ++ [UInt8.ofNat (48 + r % 10)]
theorem pad_zero : ∀ j, pad j 0 = List.replicate j 48
  | 0 => rfl
  | j + 1 => by
    show pad j 0 ++ [UInt8.ofNat 48] = _
    rw [pad_zero j, List.replicate_succ' (n := j)]
    rfl
theorem head_app {l m : List UInt8} (h : l ≠ []) : (l ++ m).head? = l.head? := by
  cases l with
  | nil => exact absurd rfl h
  | cons a l => rfl
theorem dec_small {u : Nat} (h : u < 10) : Lib.decDigits u = [UInt8.ofNat (48 + u)] := by rw [Lib.decDigits, dif_pos h]
theorem dec_big {u : Nat} (h : ¬ u < 10) : Lib.decDigits u = Lib.decDigits (u / 10) ++ [UInt8.ofNat (48 + u % 10)] := by rw [Lib.decDigits, dif_neg h]
theorem pad_eq : ∀ (j r : Nat), 1 ≤ j → r < 10 ^ j → pad j r = List.replicate (j - (Lib.decDigits r).length) 48 ++ Lib.decDigits r
  | 0, _, h, _ => by omega
  | j + 1, r, _, hr => by
    show pad j (r / 10) ++ [UInt8.ofNat (48 + r % 10)] = _
    by_cases h10 : r < 10
    · rw [show r / 10 = 0 by omega, pad_zero, dec_small h10, show r % 10 = r by omega]
      simp
    · rw [dec_big h10]
      have hj : 1 ≤ j := by
        rcases Nat.eq_zero_or_pos j with rfl | h
        · simp at hr; omega
        · exact h
      rw [pad_eq j (r / 10) hj (by rw [Nat.pow_succ] at hr; omega), List.length_append, List.length_singleton, ← List.append_assoc, show j + 1 - ((Lib.decDigits (r / 10)).length + 1) = j - (Lib.decDigits (r / 10)).length by omega]
theorem dec_shift : ∀ (j q r : Nat), 0 < q → r < 10 ^ j → Lib.decDigits (q * 10 ^ j + r) = Lib.decDigits q ++ pad j r
  | 0, q, r, _, hr => by
    have : r = 0 := by simpa using hr
    subst this
    simp [pad]
  | j + 1, q, r, hq, hr => by
    have hp : 0 < 10 ^ j := Nat.pow_pos (by omega)
    have h1 : 1 * 10 ^ j ≤ q * 10 ^ j := Nat.mul_le_mul_right _ hq
    have e : q * 10 ^ (j + 1) = 10 * (q * 10 ^ j) := by rw [Nat.pow_succ]; ac_rfl
    rw [e, dec_big (by omega), show (10 * (q * 10 ^ j) + r) / 10 = q * 10 ^ j + r / 10 by omega, show (10 * (q * 10 ^ j) + r) % 10 = r % 10 by omega]
    rw [dec_shift j q (r / 10) hq (by rw [Nat.pow_succ] at hr; omega), List.append_assoc]
    rfl
theorem repeatL_rep (c : Nat) : Lib.repeatL [48] c = List.replicate c 48 := by
  induction c with
  | zero => rfl
  | succ c ih => rw [List.replicate_succ, ← ih]; rfl

theorem drop_pos {l : List Int} (hv : vl l) (hn : ∀ l' x, l = l' ++ [x] → x ≠ 0) : ∀ (k i : Nat), i + k + 1 = l.length → 0 < numL (l.drop i)
  | 0, i, hi => by
    have hil : i < l.length := by omega
    rw [numL_drop hil]
    have h1 := vl_rd hv hil
    have h2 := hn (l.take i) (rd l (i : Int)) (by
      rw [rd_lt hil]
      have := List.take_succ_eq_append_getElem hil
      rw [← this, List.take_of_length_le (by omega)])
    omega
  | k + 1, i, hi => by
    rw [numL_drop (by omega : i < l.length)]
    have := drop_pos hv hn k (i + 1) (by omega)
    omega
theorem text_upto (l : List Int) (hv : vl l) (hn : ∀ l' x, l = l' ++ [x] → x ≠ 0) : ∀ (k : Nat), k + 1 ≤ l.length → textPre l (dn l.length (k + 1)) = Lib.decDigits (numL (l.drop (l.length - (k + 1))))
  | 0, h => by
    have hil : l.length - 1 < l.length := by omega
    rw [dn_succ (by omega), textPre_snoc]
    have e0 : textPre l (dn l.length 0) = [] := by simp [textPre, dn]
    rw [e0, List.nil_append]
    show partAt l (l.length - 1 - 0) = _
    rw [Nat.sub_zero]
    unfold partAt
    rw [if_neg (by omega), List.nil_append, numL_drop (by omega : l.length - (0 + 1) < l.length), show l.length - (0 + 1) + 1 = l.length by omega, List.drop_of_length_le (Nat.le_refl _)]
    simp only [numL, Nat.mul_zero, Nat.add_zero]
    rfl
  | k + 1, h => by
    have hil : l.length - 1 - (k + 1) < l.length := by omega
    rw [dn_succ (by omega), textPre_snoc, text_upto l hv hn k (by omega)]
    show _ ++ partAt l (l.length - 1 - (k + 1)) = _
    have hr := vl_rd hv hil
    have hd := numL_drop hil
    rw [show l.length - 1 - (k + 1) + 1 = l.length - (k + 1) by omega] at hd
    have hp := drop_pos hv hn k (l.length - (k + 1)) (by omega)
    have hi2 : l.length - 1 - (k + 1) + 1 < l.length := by omega
    rw [show l.length - (k + 1 + 1) = l.length - 1 - (k + 1) by omega, hd]
    unfold partAt
    rw [if_pos hi2]
    generalize rd l ((l.length - 1 - (k + 1) : Nat) : Int) = r at *
    have e : r.toNat + 1000000000 * numL (l.drop (l.length - (k + 1))) = numL (l.drop (l.length - (k + 1))) * 10 ^ 9 + r.toNat := by omega
    rw [e, dec_shift 9 _ _ hp (by omega), pad_eq 9 _ (by omega) (by omega)]
    have hlen : (Lib.decDigits r.toNat).length = (fu r).size := rfl
    have h9 := fu_le r (by omega)
    congr 2
    show Lib.repeatL [48] _ = _
    rw [repeatL_rep, hlen]
    congr 1
    omega
theorem textL_limbs (n : Nat) (h : n ≠ 0) : textL (limbs n) = Lib.decDigits n := by
  have hne : 0 < (limbs n).length := by rw [limbs_pos h]; simp
  unfold textL
  have := text_upto (limbs n) (vl_limbs n) (limbs_last n) ((limbs n).length - 1) (by omega)
  rw [show (limbs n).length - 1 + 1 = (limbs n).length by omega, Nat.sub_self, List.drop_zero, num_limbs] at this
  exact this

/-- The numeral of a number. -/
def dec (n : Nat) : ByteArray := ⟨(Lib.decDigits n).toArray⟩
/-- The numeral, or ErrLimit. -/
def lim (n : Nat) : ByteArray × Int := if 300 < (dec n).size then (⟨#[]⟩, 2) else (dec n, 0)
theorem text_law (n : Nat) (h : (limbs n).length ≤ 1000) : natural_number_text.f (limbs n) = some (lim n) := by
  unfold natural_number_text.f lim
  rw [if_pos ⟨h, vl_limbs n⟩]
  by_cases h0 : n = 0
  · subst h0
    rw [limbs_zero, if_pos rfl]
    have : dec 0 = ⟨#[48]⟩ := by unfold dec; rw [dec_small (by omega)]; rfl
    rw [this]
    rfl
  · rw [if_neg (by rw [limbs_pos h0]; simp), textL_limbs n h0]
    have : (dec n).size = (Lib.decDigits n).length := rfl
    rw [this]
    split <;> rfl

theorem dec_size (n : Nat) : (dec n).size = Lib.nDigits n := Lib.decDigits_length n
theorem dec_list (n : Nat) : (dec n).data.toList = Lib.decDigits n := rfl
theorem dval_dec (n : Nat) : dval (Lib.decDigits n) = n := by
  induction n using Nat.strongRecOn with
  | _ n ih =>
    by_cases h : n < 10
    · rw [dec_small h, dval_one]
      simp
      omega
    · rw [dec_big h, dval_append, ih (n / 10) (by omega), dval_one]
      simp
      omega
theorem dig_dec (n : Nat) : ∀ c ∈ Lib.decDigits n, dig c := by
  induction n using Nat.strongRecOn with
  | _ n ih =>
    intro c hc
    by_cases h : n < 10
    · rw [dec_small h, List.mem_singleton] at hc
      subst hc
      unfold dig
      simp
      omega
    · rw [dec_big h, List.mem_append, List.mem_singleton] at hc
      rcases hc with hc | rfl
      · exact ih (n / 10) (by omega) c hc
      · unfold dig
        simp
        omega
theorem dec_head (n : Nat) (h : n ≠ 0) : (Lib.decDigits n).head? ≠ some 48 := by
  induction n using Nat.strongRecOn with
  | _ n ih =>
    by_cases h10 : n < 10
    · rw [dec_small h10]
      simp only [List.head?_cons, ne_eq, Option.some.injEq]
      intro e
      have := congrArg UInt8.toNat e
      simp at this
      omega
    · rw [dec_big h10]
      have hne : Lib.decDigits (n / 10) ≠ [] := by
        intro e
        have h1 := Lib.decDigits_length (n / 10)
        rw [e] at h1
        have := Lib.nDigits_pos (n / 10)
        simp at h1
        omega
      rw [head_app hne]
      exact ih (n / 10) (by omega) (by omega)
theorem isN_dec (n : Nat) : isN (dec n) ↔ (dec n).size ≤ 300 := by
  constructor
  · exact fun h => h.2.1
  · intro h
    refine ⟨?_, h, dig_dec n, ?_⟩
    · rw [dec_size]
      have := Lib.nDigits_pos n
      omega
    · by_cases h0 : n = 0
      · subst h0
        left
        rw [dec_size, Lib.nDigits_small (by omega)]
      · exact .inr (dec_head n h0)
/-- A numeral is told by its value. -/
theorem dec_dval (l : List UInt8) (hd : ∀ c ∈ l, dig c) (h0 : l ≠ []) (hh : l.length = 1 ∨ l.head? ≠ some 48) : Lib.decDigits (dval l) = l := by
  induction hn : l.length using Nat.strongRecOn generalizing l with
  | _ n ih =>
    obtain ⟨l', c, rfl⟩ : ∃ l' c, l = l' ++ [c] := by
      rcases List.eq_nil_or_concat l with rfl | ⟨l', c, h⟩
      · exact absurd rfl h0
      · exact ⟨l', c, by rw [h, List.concat_eq_append]⟩
    have hc := hd c (by simp)
    unfold dig at hc
    have hcc : UInt8.ofNat c.toNat = c := by simp
    rw [dval_append, dval_one, List.length_singleton, Nat.pow_one]
    by_cases h1 : l' = []
    · subst h1
      rw [show dval [] = 0 from rfl, dec_small (by omega), List.nil_append, show 48 + (0 * 10 + (c.toNat - 48)) = c.toNat by omega, hcc]
    · have hd' : ∀ x ∈ l', dig x := fun x hx => hd x (List.mem_append_left _ hx)
      have hh' : l'.head? ≠ some 48 := by
        rcases hh with hh | hh
        · simp at hh; exact absurd hh h1
        · rwa [head_app h1] at hh
      have hpos : 0 < dval l' := by
        obtain ⟨a, m, rfl⟩ : ∃ a m, l' = a :: m := by
          cases l' with
          | nil => exact absurd rfl h1
          | cons a m => exact ⟨a, m, rfl⟩
        have ha := hd' a List.mem_cons_self
        unfold dig at ha
        have h48 : a.toNat ≠ 48 := fun e => hh' (by rw [List.head?_cons]; exact congrArg some (UInt8.toNat_inj.1 e))
        have := dval_append [a] m
        rw [dval_one] at this
        have h2 : 1 * 10 ^ m.length ≤ (a.toNat - 48) * 10 ^ m.length := Nat.mul_le_mul_right _ (by omega)
        have h3 : 0 < 10 ^ m.length := Nat.pow_pos (by omega)
        simp only [List.singleton_append] at this
        omega
      have := ih l'.length (by rw [← hn]; simp) l' hd' h1 (.inr hh') rfl
      rw [dec_big (by omega), show (dval l' * 10 + (c.toNat - 48)) / 10 = dval l' by omega, this, show 48 + (dval l' * 10 + (c.toNat - 48)) % 10 = c.toNat by omega, hcc]
/-- The value of a natural number's text. -/
def val (s : ByteArray) : Nat := dval s.data.toList
theorem val_dec (n : Nat) : val (dec n) = n := dval_dec n
theorem dec_val (s : ByteArray) (h : isN s) : dec (val s) = s := by
  have hl : s.data.toList ≠ [] := by
    intro e
    have := Lib.size_eq s
    rw [e] at this
    exact h.1 this
  unfold dec val
  rw [dec_dval s.data.toList h.2.2.1 hl (h.2.2.2.imp (fun e => by rw [← Lib.size_eq]; exact e) id)]
theorem dec_inj {a b : Nat} (h : dec a = dec b) : a = b := by rw [← val_dec a, ← val_dec b, h]
theorem val_lt (s : ByteArray) (h : isN s) : val s < 10 ^ s.size := by
  have h1 := dval_lt h.2.2.1
  rwa [← Lib.size_eq] at h1
theorem dec_le (n m : Nat) (h : n < 10 ^ (m + 1)) : (dec n).size ≤ m + 1 := by
  rw [dec_size]
  exact nDigits_le m n h
theorem dec_lt (n : Nat) : n < 10 ^ (dec n).size := by
  have h1 := dval_lt (dig_dec n)
  rw [dval_dec] at h1
  exact h1
theorem limbs_pow (k n : Nat) (h : n < 10 ^ (9 * k)) : (limbs n).length ≤ k := by
  refine limbs_len_lt ?_
  rw [show (1000000000 : Nat) = 10 ^ 9 from rfl, ← Nat.pow_mul]
  exact h
theorem limbs_of_size (s : ByteArray) (h : isN s) (k : Nat) (hk : s.size ≤ 9 * k) : (limbs (val s)).length ≤ k :=
  limbs_pow k _ (Nat.lt_of_lt_of_le (val_lt s h) (Nat.pow_le_pow_right (by omega) hk))
theorem limbs_val (s : ByteArray) (h : isN s) : (limbs (val s)).length ≤ 34 := limbs_of_size s h 34 (by have := h.2.1; omega)
end Go.Proofs.YtdojfnjgipeogaaGreatDoor
