/- The product; the limbs of a text; what is a natural number. -/
import Derived.Test.YtdojfnjgipeogaaGreatDoorNatP
namespace Go.Proofs.YtdojfnjgipeogaaGreatDoor
open Go.RowKit Go.Proofs.YtdojfnjgipeogaaGreatDoorW.PrintWords Go.Proofs.YtdojfnjgipeogaaGreatDoorW.PrintMore In

theorem mul_step (P B o x c k d N N' : Nat) (h : o + x + c = B * k + d) (hs : N' + P * o = N + P * d) : N' + P * B * k = N + P * c + P * x := by
  have := congrArg (P * ·) h
  simp only [Nat.mul_add] at this
  rw [Nat.mul_assoc]
  omega
theorem rd_set_ne (l : List Int) (p q : Nat) (v : Int) (h : p ≠ q) : rd (l.set p v) (q : Int) = rd l (q : Int) := by
  unfold rd
  rw [Int.toNat_natCast, List.getD_eq_getElem?_getD, List.getD_eq_getElem?_getD, List.getElem?_set_ne h]
theorem shift_mul (B i j a b : Nat) : a * B ^ i * (B ^ j * b) = B ^ (i + j) * (a * b) := by
  rw [Nat.pow_add]
  ac_rfl

theorem mul_inner (l m : List Int) (hm : vl m) (i : Nat) (hi : i < l.length) (hb : l.length + m.length ≤ 100000) (a : Nat) (ha : a < 1000000000) (T R : Nat)
    (next : ∀ out, vl out → out.length = l.length + m.length → numL out = T + a * 1000000000 ^ i * numL m → ∃ K, ∀ k, K ≤ k → natural_number_mul.l0 k m out l (l.length : Int) ((i + 1 : Nat) : Int) = some (limbs R)) (d : Nat) :
    ∀ (j : Nat) (out : List Int) (c : Nat), m.length - j = d → j ≤ m.length → vl out → out.length = l.length + m.length → c < 1000000000 → rd out ((i + m.length : Nat) : Int) = 0 →
      numL out + 1000000000 ^ (i + j) * c = T + a * 1000000000 ^ i * numL (m.take j) →
      ∃ K, ∀ k, K ≤ k → natural_number_mul.l1 k m out (i : Int) (a : Int) (c : Int) l (l.length : Int) (i : Int) m (m.length : Int) (j : Int) = some (limbs R) := by
  induction d with
  | zero =>
    intro j out c hd hj hv ho hc hz hs
    obtain rfl : j = m.length := by omega
    have hset := numL_set out (i + m.length) (c : Int) (by omega)
    rw [hz] at hset
    simp only [Int.toNat_zero, Nat.mul_zero, Nat.add_zero, Int.toNat_natCast] at hset
    rw [← hset, List.take_of_length_le (Nat.le_refl _)] at hs
    obtain ⟨K, hK⟩ := next (out.set (i + m.length) (c : Int)) (vl_set hv _ (by omega) (by omega)) (by rw [List.length_set]; exact ho) hs
    clear hs hset next
    refine ⟨K + 1, fun k hk => ?_⟩
    obtain ⟨k, rfl⟩ : ∃ m, k = m + 1 := ⟨k - 1, by omega⟩
    have h := hK k (by omega)
    simp only [natural_number_mul.l1]
    rw [if_neg (by omega), w64 (n := (i : Int) + (m.length : Int)) (by omega) (by omega), w64 (n := (i : Int) + 1) (by omega) (by omega), if_pos (by omega), if_pos (by omega)]
    rw [show ((i : Int) + (m.length : Int)).toNat = i + m.length by omega]
    exact h
  | succ d ih =>
    intro j out c hd hj hv ho hc hz hs
    have hjm : j < m.length := by omega
    have hbm := vl_rd hm hjm
    have htb := numL_take hjm
    obtain ⟨b, hb'⟩ : ∃ b : Nat, rd m (j : Int) = b := ⟨(rd m (j : Int)).toNat, by omega⟩
    have hov := vl_rd hv (show i + j < out.length by omega)
    obtain ⟨o, ho'⟩ : ∃ o : Nat, rd out ((i + j : Nat) : Int) = o := ⟨(rd out ((i + j : Nat) : Int)).toNat, by omega⟩
    rw [hb'] at hbm htb
    rw [ho'] at hov
    have hab : a * b ≤ 999999999 * 999999999 := Nat.mul_le_mul (by omega) (by omega)
    obtain ⟨x, hx⟩ : ∃ x, a * b = x := ⟨_, rfl⟩
    rw [hx] at hab
    have hset := numL_set out (i + j) (((o + x + c) % 1000000000 : Nat) : Int) (by omega)
    rw [ho', Int.toNat_natCast, Int.toNat_natCast] at hset
    have hstep := mul_step (1000000000 ^ (i + j)) 1000000000 o x c ((o + x + c) / 1000000000) ((o + x + c) % 1000000000) _ _ (by omega) hset
    rw [hs] at hstep
    obtain ⟨K, hK⟩ := ih (j + 1) (out.set (i + j) (((o + x + c) % 1000000000 : Nat) : Int)) ((o + x + c) / 1000000000) (by omega) (by omega) (vl_set hv _ (by omega) (by omega)) (by rw [List.length_set]; exact ho) (by omega)
      (by rw [rd_set_ne _ _ _ _ (by omega)]; exact hz)
      (by
        rw [htb, Int.toNat_natCast, Nat.mul_add, shift_mul, hx, show i + (j + 1) = (i + j) + 1 by omega, Nat.pow_succ, hstep]
        omega)
    clear hs hstep hset htb ih next
    refine ⟨K + 1, fun k hk => ?_⟩
    obtain ⟨k, rfl⟩ : ∃ m, k = m + 1 := ⟨k - 1, by omega⟩
    have h := hK k (by omega)
    clear hK
    simp only [natural_number_mul.l1]
    rw [w64 (n := (i : Int) + (j : Int)) (by omega) (by omega), w64 (n := (j : Int) + 1) (by omega) (by omega), if_pos (by omega), if_pos (by omega), if_pos (by omega), if_pos (by omega), if_pos (by omega)]
    have hp : ((i : Int) + (j : Int)) = ((i + j : Nat) : Int) := by omega
    have hab2 : ((a : Int) * (b : Int)) = (x : Int) := by rw [← hx]; exact (Int.natCast_mul a b).symm
    rw [hb', hp, ho', hab2, wu64 (n := (x : Int)) (by omega) (by omega), wu64 (n := (o : Int) + x) (by omega) (by omega), wu64 (n := (o : Int) + x + c) (by omega) (by omega), Int.toNat_natCast]
    have e1 : Int.tmod ((o : Int) + x + c) 1000000000 = (((o + x + c) % 1000000000 : Nat) : Int) := by
      rw [Int.tmod_eq_emod_of_nonneg (by omega)]; omega
    have e2 : IntKind.u64.wrap (Int.tdiv ((o : Int) + x + c) 1000000000) = (((o + x + c) / 1000000000 : Nat) : Int) := by
      rw [Int.tdiv_eq_ediv_of_nonneg (by omega), wu64 (by omega) (by omega)]; omega
    rw [e1, e2]
    exact h

theorem mul_outer (l m : List Int) (hl : vl l) (hm : vl m) (hb : l.length + m.length ≤ 100000) (d : Nat) :
    ∀ (i : Nat) (out : List Int), l.length - i = d → i ≤ l.length → vl out → out.length = l.length + m.length → numL out = numL (l.take i) * numL m →
      ∃ K, ∀ k, K ≤ k → natural_number_mul.l0 k m out l (l.length : Int) (i : Int) = some (limbs (numL l * numL m)) := by
  induction d with
  | zero =>
    intro i out hd hi hv ho hs
    obtain rfl : i = l.length := by omega
    rw [List.take_of_length_le (Nat.le_refl _)] at hs
    refine ⟨out.length + 2, fun k hk => ?_⟩
    obtain ⟨k, rfl⟩ : ∃ m, k = m + 1 := ⟨k - 1, by omega⟩
    simp only [natural_number_mul.l0]
    rw [if_neg (by omega), trim_law _ hv (by omega) k (by omega), hs]
    rfl
  | succ d ih =>
    intro i out hd hi hv ho hs
    have hil : i < l.length := by omega
    have ha := vl_rd hl hil
    have hta := numL_take hil
    obtain ⟨a, ha'⟩ : ∃ a : Nat, rd l (i : Int) = a := ⟨(rd l (i : Int)).toNat, by omega⟩
    rw [ha'] at ha hta
    rw [Int.toNat_natCast] at hta
    have hz : rd out ((i + m.length : Nat) : Int) = 0 := by
      refine rd_zero hv (j := i + m.length) ?_ (Nat.le_refl _) (by omega)
      rw [hs, Nat.pow_add]
      have h1 := numL_lt (l := l.take i) (fun x hx => hl x (List.mem_of_mem_take hx))
      rw [List.length_take, Nat.min_eq_left (by omega)] at h1
      exact Nat.mul_lt_mul'' h1 (numL_lt hm)
    obtain ⟨K, hK⟩ := mul_inner l m hm i hil hb a (by omega) (numL (l.take i) * numL m) (numL l * numL m)
      (fun o hv' ho' hs' => ih (i + 1) o (by omega) (by omega) hv' ho' (by
        rw [hs', hta, Nat.add_mul]
        congr 1
        ac_rfl)) m.length 0 out 0 (by omega) (by omega) hv ho (by omega) hz (by simp [hs, numL])
    refine ⟨K + 1, fun k hk => ?_⟩
    obtain ⟨k, rfl⟩ : ∃ m, k = m + 1 := ⟨k - 1, by omega⟩
    have h := hK k (by omega)
    clear hK ih hs hta
    simp only [natural_number_mul.l0]
    rw [if_pos (by omega), if_pos (by omega), if_pos (by omega), ha']
    exact h

/-- The product. -/
theorem mul_law (a b : Nat) (hab : (limbs a).length + (limbs b).length ≤ 100000) : ∃ k, natural_number_mul.f k (limbs a) (limbs b) = some (limbs (a * b)) := by
  obtain ⟨K, hK⟩ := mul_outer (limbs a) (limbs b) (vl_limbs a) (vl_limbs b) hab (limbs a).length 0 (List.replicate ((limbs a).length + (limbs b).length) 0) (by omega) (by omega) (vl_zeros _) (by simp) (by rw [numL_zeros]; simp [numL])
  refine ⟨K, ?_⟩
  unfold natural_number_mul.f
  rw [w64 (by omega) (by omega), if_pos (by omega), show ((((limbs a).length : Int) + ((limbs b).length : Int)) : Int).toNat = (limbs a).length + (limbs b).length by omega, if_pos (by omega)]
  have := hK K (Nat.le_refl _)
  rw [num_limbs, num_limbs] at this
  exact this
end Go.Proofs.YtdojfnjgipeogaaGreatDoor
