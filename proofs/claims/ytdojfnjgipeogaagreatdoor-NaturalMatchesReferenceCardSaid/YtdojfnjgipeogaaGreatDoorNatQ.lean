/- Numbers as lists of limbs of nine decimal digits: plain laws. -/
import Derived.RowKit
import Derived.Test.YtdojfnjgipeogaaGreatDoorWWords
namespace Go.Proofs.YtdojfnjgipeogaaGreatDoor
open Go.RowKit Go.Proofs.YtdojfnjgipeogaaGreatDoorW.PrintWords

def numL : List Int → Nat
  | [] => 0
  | a :: l => a.toNat + 1000000000 * numL l
def vl (l : List Int) : Prop := ∀ a ∈ l, 0 ≤ a ∧ a < 1000000000
def limbs (n : Nat) : List Int := if _h : n = 0 then [] else ((n % 1000000000 : Nat) : Int) :: limbs (n / 1000000000)
termination_by n
decreasing_by omega

theorem limbs_zero : limbs 0 = [] := by rw [limbs]; simp
theorem limbs_pos {n : Nat} (h : n ≠ 0) : limbs n = ((n % 1000000000 : Nat) : Int) :: limbs (n / 1000000000) := by rw [limbs]; simp [h]
theorem num_limbs (n : Nat) : numL (limbs n) = n := by
  induction n using Nat.strongRecOn with
  | _ n ih =>
    by_cases h : n = 0
    · subst h; rw [limbs_zero]; rfl
    · rw [limbs_pos h]
      show (((n % 1000000000 : Nat) : Int)).toNat + 1000000000 * numL (limbs (n / 1000000000)) = n
      rw [ih _ (by omega), Int.toNat_natCast]
      omega
theorem vl_limbs (n : Nat) : vl (limbs n) := by
  induction n using Nat.strongRecOn with
  | _ n ih =>
    by_cases h : n = 0
    · subst h; rw [limbs_zero]; intro a ha; cases ha
    · rw [limbs_pos h]
      intro a ha
      rcases List.mem_cons.1 ha with rfl | ha
      · omega
      · exact ih _ (by omega) a ha
theorem numL_append (l m : List Int) : numL (l ++ m) = numL l + 1000000000 ^ l.length * numL m := by
  induction l with
  | nil => simp [numL]
  | cons a l ih =>
    show a.toNat + 1000000000 * numL (l ++ m) = a.toNat + 1000000000 * numL l + 1000000000 ^ (l.length + 1) * numL m
    rw [ih, Nat.pow_succ, Nat.mul_add, Nat.mul_comm (1000000000 ^ l.length) 1000000000, Nat.mul_assoc]
    omega
theorem vl_nil : vl [] := fun a ha => by cases ha
theorem vl_append {l m : List Int} (h : vl l) (k : vl m) : vl (l ++ m) := fun a ha => (List.mem_append.1 ha).elim (h a) (k a)
theorem vl_one {a : Int} (h0 : 0 ≤ a) (h1 : a < 1000000000) : vl [a] := fun b hb => by rw [List.mem_singleton] at hb; subst hb; exact ⟨h0, h1⟩
theorem vl_left {l m : List Int} (h : vl (l ++ m)) : vl l := fun a ha => h a (List.mem_append_left _ ha)
theorem vl_right {l m : List Int} (h : vl (l ++ m)) : vl m := fun a ha => h a (List.mem_append_right _ ha)
theorem numL_lt {l : List Int} (h : vl l) : numL l < 1000000000 ^ l.length := by
  induction l with
  | nil => simp [numL]
  | cons a l ih =>
    have h1 := h a List.mem_cons_self
    have h2 := ih (fun b hb => h b (List.mem_cons_of_mem _ hb))
    show a.toNat + 1000000000 * numL l < 1000000000 ^ (l.length + 1)
    rw [Nat.pow_succ]
    omega
/-- A list without leading zeros is told by its value. -/
theorem limbs_num {l : List Int} (h : vl l) (hn : ∀ l' x, l = l' ++ [x] → x ≠ 0) : limbs (numL l) = l := by
  induction l with
  | nil => exact limbs_zero
  | cons a l ih =>
    have h1 := h a List.mem_cons_self
    have h2 : vl l := fun b hb => h b (List.mem_cons_of_mem _ hb)
    have h3 : ∀ l' x, l = l' ++ [x] → x ≠ 0 := fun l' x e => hn (a :: l') x (by rw [e]; rfl)
    have ih' := ih h2 h3
    have hne : a.toNat + 1000000000 * numL l ≠ 0 := by
      rcases List.eq_nil_or_concat l with rfl | ⟨l', x, rfl⟩
      · have := hn [] a rfl
        simp only [numL]
        omega
      · have hx := hn (a :: l') x (by simp)
        have hxv := h2 x (by simp)
        simp only [List.concat_eq_append] at *
        rw [numL_append]
        have : 0 < 1000000000 ^ l'.length := Nat.pow_pos (by omega)
        have hx1 : 1 ≤ numL [x] := by simp only [numL]; omega
        have := Nat.mul_le_mul this hx1
        omega
    show limbs (a.toNat + 1000000000 * numL l) = a :: l
    rw [limbs_pos hne, show (a.toNat + 1000000000 * numL l) / 1000000000 = numL l by omega, ih', show (a.toNat + 1000000000 * numL l) % 1000000000 = a.toNat by omega, Int.toNat_of_nonneg h1.1]
theorem limbs_last (n : Nat) : ∀ l' x, limbs n = l' ++ [x] → x ≠ 0 := by
  induction n using Nat.strongRecOn with
  | _ n ih =>
    intro l' x e
    by_cases h : n = 0
    · subst h; rw [limbs_zero] at e; simp at e
    · rw [limbs_pos h] at e
      cases l' with
      | nil =>
        simp only [List.nil_append, List.cons.injEq] at e
        obtain ⟨rfl, e2⟩ := e
        have : n / 1000000000 = 0 := by
          have := num_limbs (n / 1000000000)
          rw [e2] at this
          exact this.symm
        omega
      | cons y l'' =>
        simp only [List.cons_append, List.cons.injEq] at e
        exact ih (n / 1000000000) (by omega) l'' x e.2
theorem limbs_len_le {n m : Nat} (h : n ≤ m) : (limbs n).length ≤ (limbs m).length := by
  induction n using Nat.strongRecOn generalizing m with
  | _ n ih =>
    by_cases hn : n = 0
    · subst hn; rw [limbs_zero]; simp
    · rw [limbs_pos hn, limbs_pos (by omega : m ≠ 0)]
      simp only [List.length_cons]
      have := ih (n / 1000000000) (by omega) (Nat.div_le_div_right (c := 1000000000) h)
      omega
theorem limbs_len_lt {n k : Nat} (h : n < 1000000000 ^ k) : (limbs n).length ≤ k := by
  induction k generalizing n with
  | zero =>
    have : n = 0 := by simpa using h
    subst this; rw [limbs_zero]; simp
  | succ k ih =>
    by_cases hn : n = 0
    · subst hn; rw [limbs_zero]; simp
    · rw [limbs_pos hn]
      simp only [List.length_cons]
      have := ih (n := n / 1000000000) (by rw [Nat.pow_succ] at h; omega)
      omega
theorem rd_lt {l : List Int} {i : Nat} (hi : i < l.length) : rd l (i : Int) = l[i] := by
  unfold rd
  rw [Int.toNat_natCast, List.getD_eq_getElem?_getD, List.getElem?_eq_getElem hi]; rfl
theorem numL_drop {l : List Int} {i : Nat} (hi : i < l.length) : numL (l.drop i) = (rd l (i : Int)).toNat + 1000000000 * numL (l.drop (i + 1)) := by
  rw [List.drop_eq_getElem_cons hi, rd_lt hi]; rfl
theorem vl_rd {l : List Int} (h : vl l) {i : Nat} (hi : i < l.length) : 0 ≤ rd l (i : Int) ∧ rd l (i : Int) < 1000000000 := by
  rw [rd_lt hi]; exact h _ (List.getElem_mem hi)
theorem numL_take {l : List Int} {i : Nat} (hi : i < l.length) : numL (l.take (i + 1)) = numL (l.take i) + 1000000000 ^ i * (rd l (i : Int)).toNat := by
  rw [List.take_succ_eq_append_getElem hi, numL_append, List.length_take, Nat.min_eq_left (by omega), rd_lt hi]
  simp [numL]
theorem numL_set (l : List Int) : ∀ (p : Nat) (v : Int), p < l.length → numL (l.set p v) + 1000000000 ^ p * (rd l (p : Int)).toNat = numL l + 1000000000 ^ p * v.toNat := by
  induction l with
  | nil => intro p v h; simp at h
  | cons a l ih =>
    intro p v h
    cases p with
    | zero => simp only [List.set_cons_zero, numL, Nat.pow_zero, Nat.one_mul]; rw [rd_lt (by simp)]; simp; omega
    | succ p =>
      have := ih p v (by simpa using h)
      have e : rd (a :: l) ((p + 1 : Nat) : Int) = rd l (p : Int) := by rw [rd_lt h, rd_lt (by simpa using h)]; rfl
      rw [e]
      simp only [List.set_cons_succ, numL, Nat.pow_succ]
      rw [Nat.mul_comm (1000000000 ^ p) 1000000000, Nat.mul_assoc, Nat.mul_assoc]
      omega
theorem vl_set {l : List Int} (h : vl l) (p : Nat) {v : Int} (h0 : 0 ≤ v) (h1 : v < 1000000000) : vl (l.set p v) := fun a ha => by
  rcases List.mem_or_eq_of_mem_set ha with h' | rfl
  · exact h a h'
  · exact ⟨h0, h1⟩
theorem vl_zeros (n : Nat) : vl (List.replicate n 0) := fun a ha => by rw [List.mem_replicate] at ha; omega
theorem numL_zeros (n : Nat) : numL (List.replicate n 0) = 0 := by
  induction n with
  | zero => rfl
  | succ n ih => rw [List.replicate_succ]; simp [numL, ih]
theorem w64 {n : Int} (h0 : -9223372036854775808 ≤ n) (h1 : n ≤ 9223372036854775807) : wrap64 n = n := by unfold wrap64; omega
theorem wu64 {n : Int} (h0 : 0 ≤ n) (h1 : n < 18446744073709551616) : IntKind.u64.wrap n = n := by rw [IntKind.wrap_u64]; omega
/-- A digit beyond a number's size is zero. -/
theorem rd_zero {l : List Int} (h : vl l) {j i : Nat} (hn : numL l < 1000000000 ^ j) (hji : j ≤ i) (hi : i < l.length) : rd l (i : Int) = 0 := by
  have h1 := numL_append (l.take i) (l.drop i)
  rw [List.take_append_drop, List.length_take, Nat.min_eq_left (by omega), numL_drop hi] at h1
  have h2 := vl_rd h hi
  have h3 : 1000000000 ^ j ≤ 1000000000 ^ i := Nat.pow_le_pow_right (by omega) hji
  rcases Nat.eq_zero_or_pos (rd l (i : Int)).toNat with h4 | h4
  · omega
  · have : 1000000000 ^ i * 1 ≤ 1000000000 ^ i * ((rd l (i : Int)).toNat + 1000000000 * numL (l.drop (i + 1))) := Nat.mul_le_mul_left _ (by omega)
    omega
end Go.Proofs.YtdojfnjgipeogaaGreatDoor
