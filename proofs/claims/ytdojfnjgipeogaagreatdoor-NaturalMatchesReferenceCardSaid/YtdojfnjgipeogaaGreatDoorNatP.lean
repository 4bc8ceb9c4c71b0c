/- What the printed functions of package natural come to: sums, differences, products of numbers as lists of limbs. -/
import Derived.Test.YtdojfnjgipeogaaGreatDoorNatQ
import Derived.Test.YtdojfnjgipeogaaGreatDoorInx
import Derived.Lib.Hide
namespace Go.Proofs.YtdojfnjgipeogaaGreatDoor
open Go.RowKit Go.Proofs.YtdojfnjgipeogaaGreatDoorW.PrintWords Go.Proofs.YtdojfnjgipeogaaGreatDoorW.PrintMore In

theorem trim_law (l : List Int) (h : vl l) (hl : l.length ≤ 1000000) : ∀ k, l.length < k → natural_number_trim.f k l = some (limbs (numL l)) := by
  have key : ∀ (n : Nat) (l : List Int), l.length = n → vl l → n ≤ 1000000 → ∀ k, n < k → natural_number_trim.l0 k l = some (limbs (numL l)) := by
    intro n
    induction n with
    | zero =>
      intro l hn _ _ k hk
      obtain ⟨k, rfl⟩ : ∃ m, k = m + 1 := ⟨k - 1, by omega⟩
      obtain rfl := List.eq_nil_of_length_eq_zero hn
      simp only [natural_number_trim.l0]
      rw [if_neg (by simp)]
      rw [show numL [] = 0 from rfl, limbs_zero]
    | succ n ih =>
      intro l hn hv hb k hk
      obtain ⟨k, rfl⟩ : ∃ m, k = m + 1 := ⟨k - 1, by omega⟩
      have hw : wrap64 ((l.length : Int) - 1) = (n : Int) := by rw [w64 (by omega) (by omega)]; omega
      simp only [natural_number_trim.l0]
      rw [hw, if_pos (by omega), if_pos (by omega), if_pos (by omega)]
      have hsp : l = l.take n ++ [rd l (n : Int)] := by
        rw [rd_lt (by omega)]
        have := List.take_succ_eq_append_getElem (l := l) (i := n) (by omega)
        rw [← this, List.take_of_length_le (by omega)]
      by_cases h0 : rd l (n : Int) = 0
      · rw [if_pos h0, if_pos (by omega), Int.toNat_natCast, ih (l.take n) (by rw [List.length_take]; omega) (fun a ha => hv a (List.mem_of_mem_take ha)) (by omega) k (by omega)]
        have e : numL l = numL (l.take n) := by
          conv => lhs; rw [hsp, numL_append, h0]
          simp [numL]
        rw [e]
      · rw [if_neg h0, limbs_num hv]
        intro l' x e
        have e2 : l.take n ++ [rd l (n : Int)] = l' ++ [x] := by rw [← hsp]; exact e
        have := (List.append_inj' e2 rfl).2
        simp only [List.cons.injEq, and_true] at this
        rw [← this]; exact h0
  intro k hk
  exact key l.length l rfl h hl k hk

theorem carry_step (P B c a A b M k d : Nat) (h : a + c + b = B * k + d) : P * (c + (a + B * A) + (b + B * M)) = P * d + P * B * (k + A + M) := by
  rw [show c + (a + B * A) + (b + B * M) = d + B * (k + A + M) by rw [Nat.mul_add, Nat.mul_add]; omega, Nat.mul_add, Nat.mul_assoc]

theorem add_law0 (l m : List Int) (hl : vl l) (hm : vl m) (hml : m.length ≤ l.length) (hb : l.length ≤ 100000) (d : Nat) : ∀ (k i : Nat) (x5 : List Int) (c : Nat), l.length - i = d → i ≤ l.length → x5.length = i → vl x5 → c ≤ 1 → 2 * l.length + 10 < k + i →
    numL x5 + 1000000000 ^ i * (c + numL (l.drop i) + numL (m.drop i)) = numL l + numL m → natural_number_add.l0 k m x5 (c : Int) l (l.length : Int) (i : Int) = some (limbs (numL l + numL m)) := by
  induction d with
  | zero =>
    intro k i x5 c hd hi h5 hv hc hk hs
    obtain ⟨k, rfl⟩ : ∃ m, k = m + 1 := ⟨k - 1, by omega⟩
    obtain rfl : i = l.length := by omega
    simp only [natural_number_add.l0]
    rw [if_neg (by omega), if_pos (by omega), trim_law _ (vl_append hv (vl_one (by omega) (by omega))) (by simp; omega) k (by simp; omega)]
    simp only [Option.bind_some]
    rw [List.drop_of_length_le (Nat.le_refl _), List.drop_of_length_le hml] at hs
    rw [numL_append, h5, ← hs]
    simp [numL]
  | succ d ih =>
    intro k i x5 c hd hi h5 hv hc hk hs
    obtain ⟨k, rfl⟩ : ∃ m, k = m + 1 := ⟨k - 1, by omega⟩
    have hil : i < l.length := by omega
    have ha := vl_rd hl hil
    have hw : wrap64 ((i : Int) + 1) = ((i + 1 : Nat) : Int) := by rw [w64 (by omega) (by omega)]; omega
    simp only [natural_number_add.l0]
    rw [hw]
    clear hw
    have HS := Lib.hid hs
    clear hs
    rw [if_pos (by omega), if_pos (by omega), if_pos (by omega)]
    have hs := HS.out
    clear HS
    rw [numL_drop hil] at hs
    obtain ⟨a, ha'⟩ : ∃ a : Nat, rd l (i : Int) = a := ⟨(rd l (i : Int)).toNat, by omega⟩
    rw [ha'] at ha hs ⊢
    rw [Int.toNat_natCast] at hs
    by_cases him : i < m.length
    · have hbm := vl_rd hm him
      rw [if_pos (by omega), if_pos (by omega)]
      rw [numL_drop him] at hs
      obtain ⟨b, hb'⟩ : ∃ b : Nat, rd m (i : Int) = b := ⟨(rd m (i : Int)).toNat, by omega⟩
      rw [hb'] at hbm hs ⊢
      rw [Int.toNat_natCast] at hs
      rw [wu64 (n := (a : Int) + c) (by omega) (by omega), wu64 (n := (a : Int) + c + b) (by omega) (by omega)]
      have e1 : Int.tmod ((a : Int) + c + b) 1000000000 = (((a + c + b) % 1000000000 : Nat) : Int) := by
        rw [Int.tmod_eq_emod_of_nonneg (by omega)]; omega
      have e2 : IntKind.u64.wrap (Int.tdiv ((a : Int) + c + b) 1000000000) = (((a + c + b) / 1000000000 : Nat) : Int) := by
        rw [Int.tdiv_eq_ediv_of_nonneg (by omega), wu64 (by omega) (by omega)]; omega
      rw [e1, e2]
      refine ih k (i + 1) _ _ (by omega) (by omega) (by simp [h5]) (vl_append hv (vl_one (by omega) (by omega))) (by omega) (by omega) ?_
      rw [carry_step _ _ c a _ b _ ((a + c + b) / 1000000000) ((a + c + b) % 1000000000) (by omega)] at hs
      rw [numL_append, h5, Nat.pow_succ]
      simp only [numL, Int.toNat_natCast, Nat.mul_zero, Nat.add_zero]
      omega
    · rw [if_neg (by omega), if_pos (by omega)]
      rw [List.drop_of_length_le (by omega : m.length ≤ i)] at hs
      rw [wu64 (n := (a : Int) + c) (by omega) (by omega)]
      have e1 : Int.tmod ((a : Int) + c) 1000000000 = (((a + c) % 1000000000 : Nat) : Int) := by
        rw [Int.tmod_eq_emod_of_nonneg (by omega)]; omega
      have e2 : IntKind.u64.wrap (Int.tdiv ((a : Int) + c) 1000000000) = (((a + c) / 1000000000 : Nat) : Int) := by
        rw [Int.tdiv_eq_ediv_of_nonneg (by omega), wu64 (by omega) (by omega)]; omega
      rw [e1, e2]
      refine ih k (i + 1) _ _ (by omega) (by omega) (by simp [h5]) (vl_append hv (vl_one (by omega) (by omega))) (by omega) (by omega) ?_
      rw [List.drop_of_length_le (by omega : m.length ≤ i + 1)]
      have := carry_step (1000000000 ^ i) 1000000000 c a (numL (l.drop (i + 1))) 0 0 ((a + c) / 1000000000) ((a + c) % 1000000000) (by omega)
      simp only [numL, Nat.mul_zero, Nat.add_zero] at hs this ⊢
      rw [this] at hs
      rw [numL_append, h5, Nat.pow_succ]
      simp only [numL, Int.toNat_natCast, Nat.mul_zero, Nat.add_zero]
      omega
theorem add_law100 (l m : List Int) (hl : vl l) (hm : vl m) (hml : m.length ≤ l.length) (hb : l.length ≤ 100000) (d : Nat) : ∀ (k i : Nat) (x5 : List Int) (c : Nat), l.length - i = d → i ≤ l.length → x5.length = i → vl x5 → c ≤ 1 → 2 * l.length + 10 < k + i →
    numL x5 + 1000000000 ^ i * (c + numL (l.drop i) + numL (m.drop i)) = numL l + numL m → natural_number_add.l100 k m x5 (c : Int) l (l.length : Int) (i : Int) = some (limbs (numL l + numL m)) := by
  induction d with
  | zero =>
    intro k i x5 c hd hi h5 hv hc hk hs
    obtain ⟨k, rfl⟩ : ∃ m, k = m + 1 := ⟨k - 1, by omega⟩
    obtain rfl : i = l.length := by omega
    simp only [natural_number_add.l100]
    rw [if_neg (by omega), if_pos (by omega), trim_law _ (vl_append hv (vl_one (by omega) (by omega))) (by simp; omega) k (by simp; omega)]
    simp only [Option.bind_some]
    rw [List.drop_of_length_le (Nat.le_refl _), List.drop_of_length_le hml] at hs
    rw [numL_append, h5, ← hs]
    simp [numL]
  | succ d ih =>
    intro k i x5 c hd hi h5 hv hc hk hs
    obtain ⟨k, rfl⟩ : ∃ m, k = m + 1 := ⟨k - 1, by omega⟩
    have hil : i < l.length := by omega
    have ha := vl_rd hl hil
    have hw : wrap64 ((i : Int) + 1) = ((i + 1 : Nat) : Int) := by rw [w64 (by omega) (by omega)]; omega
    simp only [natural_number_add.l100]
    rw [hw]
    clear hw
    have HS := Lib.hid hs
    clear hs
    rw [if_pos (by omega), if_pos (by omega), if_pos (by omega)]
    have hs := HS.out
    clear HS
    rw [numL_drop hil] at hs
    obtain ⟨a, ha'⟩ : ∃ a : Nat, rd l (i : Int) = a := ⟨(rd l (i : Int)).toNat, by omega⟩
    rw [ha'] at ha hs ⊢
    rw [Int.toNat_natCast] at hs
    by_cases him : i < m.length
    · have hbm := vl_rd hm him
      rw [if_pos (by omega), if_pos (by omega)]
      rw [numL_drop him] at hs
      obtain ⟨b, hb'⟩ : ∃ b : Nat, rd m (i : Int) = b := ⟨(rd m (i : Int)).toNat, by omega⟩
      rw [hb'] at hbm hs ⊢
      rw [Int.toNat_natCast] at hs
      rw [wu64 (n := (a : Int) + c) (by omega) (by omega), wu64 (n := (a : Int) + c + b) (by omega) (by omega)]
      have e1 : Int.tmod ((a : Int) + c + b) 1000000000 = (((a + c + b) % 1000000000 : Nat) : Int) := by
        rw [Int.tmod_eq_emod_of_nonneg (by omega)]; omega
      have e2 : IntKind.u64.wrap (Int.tdiv ((a : Int) + c + b) 1000000000) = (((a + c + b) / 1000000000 : Nat) : Int) := by
        rw [Int.tdiv_eq_ediv_of_nonneg (by omega), wu64 (by omega) (by omega)]; omega
      rw [e1, e2]
      refine ih k (i + 1) _ _ (by omega) (by omega) (by simp [h5]) (vl_append hv (vl_one (by omega) (by omega))) (by omega) (by omega) ?_
      rw [carry_step _ _ c a _ b _ ((a + c + b) / 1000000000) ((a + c + b) % 1000000000) (by omega)] at hs
      rw [numL_append, h5, Nat.pow_succ]
      simp only [numL, Int.toNat_natCast, Nat.mul_zero, Nat.add_zero]
      omega
    · rw [if_neg (by omega), if_pos (by omega)]
      rw [List.drop_of_length_le (by omega : m.length ≤ i)] at hs
      rw [wu64 (n := (a : Int) + c) (by omega) (by omega)]
      have e1 : Int.tmod ((a : Int) + c) 1000000000 = (((a + c) % 1000000000 : Nat) : Int) := by
        rw [Int.tmod_eq_emod_of_nonneg (by omega)]; omega
      have e2 : IntKind.u64.wrap (Int.tdiv ((a : Int) + c) 1000000000) = (((a + c) / 1000000000 : Nat) : Int) := by
        rw [Int.tdiv_eq_ediv_of_nonneg (by omega), wu64 (by omega) (by omega)]; omega
      rw [e1, e2]
      refine ih k (i + 1) _ _ (by omega) (by omega) (by simp [h5]) (vl_append hv (vl_one (by omega) (by omega))) (by omega) (by omega) ?_
      rw [List.drop_of_length_le (by omega : m.length ≤ i + 1)]
      have := carry_step (1000000000 ^ i) 1000000000 c a (numL (l.drop (i + 1))) 0 0 ((a + c) / 1000000000) ((a + c) % 1000000000) (by omega)
      simp only [numL, Nat.mul_zero, Nat.add_zero] at hs this ⊢
      rw [this] at hs
      rw [numL_append, h5, Nat.pow_succ]
      simp only [numL, Int.toNat_natCast, Nat.mul_zero, Nat.add_zero]
      omega

theorem vl_any (n : Nat) : vl (limbs n) := vl_limbs n
/-- The sum. -/
theorem add_law (a b : Nat) (ha : (limbs a).length ≤ 100000) (hb : (limbs b).length ≤ 100000) : ∃ k, natural_number_add.f k (limbs a) (limbs b) = some (limbs (a + b)) := by
  have na := num_limbs a
  have nb := num_limbs b
  by_cases h : (limbs a).length < (limbs b).length
  · refine ⟨2 * (limbs b).length + 11, ?_⟩
    unfold natural_number_add.f
    rw [if_pos (by omega), w64 (by omega) (by omega), if_pos (by omega), if_pos (by omega)]
    have := add_law0 (limbs b) (limbs a) (vl_limbs b) (vl_limbs a) (by omega) hb (limbs b).length (2 * (limbs b).length + 11) 0 [] 0 (by omega) (by omega) rfl vl_nil (by omega) (by omega) (by simp [numL])
    rw [nb, na, Nat.add_comm b a] at this
    exact this
  · refine ⟨2 * (limbs a).length + 11, ?_⟩
    unfold natural_number_add.f
    rw [if_neg (by omega), w64 (by omega) (by omega), if_pos (by omega), if_pos (by omega)]
    have := add_law100 (limbs a) (limbs b) (vl_limbs a) (vl_limbs b) (by omega) ha (limbs a).length (2 * (limbs a).length + 11) 0 [] 0 (by omega) (by omega) rfl vl_nil (by omega) (by omega) (by simp [numL])
    rw [nb, na] at this
    exact this

theorem borrow_step (P B d c a b k L M X : Nat) (h : a + B * k = d + (b + c)) (e : X + M = L + P * c) : X + P * d + (M + P * b) = L + P * a + P * B * k := by
  have := congrArg (P * ·) h
  simp only [Nat.mul_add] at this
  rw [Nat.mul_assoc]
  omega

theorem set_mid (done : List Int) (n : Nat) (v : Int) : (done ++ List.replicate (n + 1) 0).set done.length v = (done ++ [v]) ++ List.replicate n 0 := by
  rw [List.set_append_right _ _ (Nat.le_refl _), Nat.sub_self, List.replicate_succ, List.set_cons_zero]
  simp

theorem sub_law0 (l m : List Int) (hl : vl l) (hm : vl m) (hb : l.length ≤ 100000) (d : Nat) : ∀ (k i : Nat) (x5 : List Int) (c : Nat), l.length - i = d → i ≤ l.length → x5.length = i → vl x5 → c ≤ 1 → 2 * l.length + 10 < k + i →
    numL x5 + numL (m.take i) = numL (l.take i) + 1000000000 ^ i * c →
    ∃ c', c' ≤ 1 ∧ ∃ y, vl y ∧ y.length = l.length ∧ numL y + numL (m.take l.length) = numL l + 1000000000 ^ l.length * c' ∧ natural_number_sub.l0 k m (x5 ++ List.replicate d 0) (c : Int) l (l.length : Int) (i : Int) = some (limbs (numL y)) := by
  induction d with
  | zero =>
    intro k i x5 c hd hi h5 hv hc hk hs
    obtain ⟨k, rfl⟩ : ∃ m, k = m + 1 := ⟨k - 1, by omega⟩
    obtain rfl : i = l.length := by omega
    refine ⟨c, hc, x5, hv, h5, by rw [hs, List.take_of_length_le (Nat.le_refl _)], ?_⟩
    clear hs
    simp only [natural_number_sub.l0]
    rw [if_neg (by omega), List.replicate_zero, List.append_nil, trim_law _ hv (by omega) k (by omega)]
    rfl
  | succ d ih =>
    intro k i x5 c hd hi h5 hv hc hk hs
    obtain ⟨k, rfl⟩ : ∃ m, k = m + 1 := ⟨k - 1, by omega⟩
    have hil : i < l.length := by omega
    have ha := vl_rd hl hil
    have hlen : (x5 ++ List.replicate (d + 1) 0).length = l.length := by simp [h5]; omega
    have hset : ∀ v, (x5 ++ List.replicate (d + 1) 0).set i v = (x5 ++ [v]) ++ List.replicate d 0 := fun v => by rw [← h5]; exact set_mid x5 d v
    have HS := Lib.hid hs
    clear hs
    simp only [natural_number_sub.l0]
    rw [hlen, Int.toNat_natCast]
    simp only [hset]
    have HSET := Lib.hid hset
    clear hset hlen
    have hw : wrap64 ((i : Int) + 1) = ((i + 1 : Nat) : Int) := by rw [w64 (by omega) (by omega)]; omega
    rw [hw]
    clear hw
    rw [if_pos (by omega), if_pos (by omega), if_pos (by omega)]
    obtain ⟨a, ha'⟩ : ∃ a : Nat, rd l (i : Int) = a := ⟨(rd l (i : Int)).toNat, by omega⟩
    have hta := numL_take hil
    rw [ha'] at ha hta ⊢
    rw [Int.toNat_natCast] at hta
    by_cases him : i < m.length
    · have hbm := vl_rd hm him
      have htb := numL_take him
      obtain ⟨b, hb'⟩ : ∃ b : Nat, rd m (i : Int) = b := ⟨(rd m (i : Int)).toNat, by omega⟩
      rw [hb'] at hbm htb ⊢
      rw [Int.toNat_natCast] at htb
      have HTA := Lib.hid hta
      have HTB := Lib.hid htb
      clear hta htb
      rw [if_pos (by omega), wu64 (n := (c : Int) + b) (by omega) (by omega), wu64 (n := (a : Int) + 1000000000) (by omega) (by omega)]
      by_cases hlt : (a : Int) < (c : Int) + b
      · rw [if_pos hlt, if_pos (show (i : Int) < (l.length : Int) by omega), wu64 (n := (a : Int) + 1000000000 - ((c : Int) + b)) (by omega) (by omega)]
        obtain ⟨v, hv'⟩ : ∃ v : Nat, (a : Int) + 1000000000 - ((c : Int) + b) = v := ⟨a + 1000000000 - (c + b), by omega⟩
        rw [hv']
        refine ih k (i + 1) (x5 ++ [(v : Int)]) 1 (by omega) (by omega) (by simp [h5]) (vl_append hv (vl_one (by omega) (by omega))) (by omega) (by omega) ?_
        have := borrow_step (1000000000 ^ i) 1000000000 v c a b 1 _ _ _ (by omega) HS.out
        rw [numL_append, h5, HTA.out, HTB.out, Nat.pow_succ]
        simpa [numL] using this
      · rw [if_neg hlt, if_pos (show (i : Int) < (l.length : Int) by omega), wu64 (n := (a : Int) - ((c : Int) + b)) (by omega) (by omega)]
        obtain ⟨v, hv'⟩ : ∃ v : Nat, (a : Int) - ((c : Int) + b) = v := ⟨a - (c + b), by omega⟩
        rw [hv']
        refine ih k (i + 1) (x5 ++ [(v : Int)]) 0 (by omega) (by omega) (by simp [h5]) (vl_append hv (vl_one (by omega) (by omega))) (by omega) (by omega) ?_
        have := borrow_step (1000000000 ^ i) 1000000000 v c a b 0 _ _ _ (by omega) HS.out
        rw [numL_append, h5, HTA.out, HTB.out, Nat.pow_succ]
        simpa [numL] using this
    · have htb : numL (m.take (i + 1)) = numL (m.take i) := by rw [List.take_of_length_le (by omega), List.take_of_length_le (by omega)]
      have HTA := Lib.hid hta
      have HTB := Lib.hid htb
      clear hta htb
      rw [if_neg (by omega), wu64 (n := (a : Int) + 1000000000) (by omega) (by omega)]
      by_cases hlt : (a : Int) < (c : Int)
      · rw [if_pos hlt, if_pos (show (i : Int) < (l.length : Int) by omega), wu64 (n := (a : Int) + 1000000000 - (c : Int)) (by omega) (by omega)]
        obtain ⟨v, hv'⟩ : ∃ v : Nat, (a : Int) + 1000000000 - (c : Int) = v := ⟨a + 1000000000 - c, by omega⟩
        rw [hv']
        refine ih k (i + 1) (x5 ++ [(v : Int)]) 1 (by omega) (by omega) (by simp [h5]) (vl_append hv (vl_one (by omega) (by omega))) (by omega) (by omega) ?_
        have := borrow_step (1000000000 ^ i) 1000000000 v c a 0 1 _ _ _ (by omega) HS.out
        rw [numL_append, h5, HTA.out, HTB.out, Nat.pow_succ]
        simpa [numL] using this
      · rw [if_neg hlt, if_pos (show (i : Int) < (l.length : Int) by omega), wu64 (n := (a : Int) - (c : Int)) (by omega) (by omega)]
        obtain ⟨v, hv'⟩ : ∃ v : Nat, (a : Int) - (c : Int) = v := ⟨a - c, by omega⟩
        rw [hv']
        refine ih k (i + 1) (x5 ++ [(v : Int)]) 0 (by omega) (by omega) (by simp [h5]) (vl_append hv (vl_one (by omega) (by omega))) (by omega) (by omega) ?_
        have := borrow_step (1000000000 ^ i) 1000000000 v c a 0 0 _ _ _ (by omega) HS.out
        rw [numL_append, h5, HTA.out, HTB.out, Nat.pow_succ]
        simpa [numL] using this

/-- The difference. -/
theorem sub_law (a b : Nat) (hab : b ≤ a) (ha : (limbs a).length ≤ 100000) : ∃ k, natural_number_sub.f k (limbs a) (limbs b) = some (limbs (a - b)) := by
  have na := num_limbs a
  have nb := num_limbs b
  have hlen := limbs_len_le hab
  obtain ⟨c', hc', y, hy, hyl, e, h⟩ := sub_law0 (limbs a) (limbs b) (vl_limbs a) (vl_limbs b) ha (limbs a).length (2 * (limbs a).length + 11) 0 [] 0 (by omega) (by omega) rfl vl_nil (by omega) (by omega) (by simp [numL])
  refine ⟨2 * (limbs a).length + 11, ?_⟩
  unfold natural_number_sub.f
  rw [if_pos (by omega), Int.toNat_natCast, if_pos (by omega)]
  rw [List.nil_append] at h
  have hlt := numL_lt hy
  rw [List.take_of_length_le hlen, na, nb, hyl] at *
  have : c' = 0 := by
    rcases Nat.eq_zero_or_pos c' with h0 | h0
    · exact h0
    · obtain rfl : c' = 1 := by omega
      omega
  subst this
  have e2 : numL y = a - b := by omega
  rw [e2] at h
  exact h
end Go.Proofs.YtdojfnjgipeogaaGreatDoor
