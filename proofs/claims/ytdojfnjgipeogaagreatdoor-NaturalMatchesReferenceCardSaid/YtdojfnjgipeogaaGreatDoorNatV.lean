/- Long division, plainly: the rest and the digits as folds over the indices that have come. -/
import Derived.Test.YtdojfnjgipeogaaGreatDoorNatS
import Derived.Test.YtdojfnjgipeogaaGreatDoorNatB
namespace Go.Proofs.YtdojfnjgipeogaaGreatDoor
open Go.RowKit Go.Shelf Go.Proofs.YtdojfnjgipeogaaGreatDoorW.PrintWords NatB

def dT (l : List Int) (r : Nat) (x : Nat) : Nat := (rd l (x : Int)).toNat + 1000000000 * r
def dStep (l : List Int) (M : Nat) (s : Nat × List Int) (x : Nat) : Nat × List Int :=
  if dT l s.1 x < M then (dT l s.1 x, s.2) else (dT l s.1 x % M, s.2.set x ((dT l s.1 x / M : Nat) : Int))
def dF (l : List Int) (M : Nat) (pre : List (Fin l.length)) : Nat × List Int := pre.foldl (fun s (x : Fin l.length) => dStep l M s x.val) (0, List.replicate l.length 0)
theorem dF_nil (l : List Int) (M : Nat) : dF l M [] = (0, List.replicate l.length 0) := rfl
theorem dF_snoc (l : List Int) (M : Nat) (pre : List (Fin l.length)) (x : Fin l.length) : dF l M (pre ++ [x]) = dStep l M (dF l M pre) x := by
  unfold dF; rw [List.foldl_append]; rfl
theorem dF_len (l : List Int) (M : Nat) (pre : List (Fin l.length)) : (dF l M pre).2.length = l.length := by
  unfold dF
  generalize hs : ((0, List.replicate l.length 0) : Nat × List Int) = s
  have h0 : s.2.length = l.length := by rw [← hs]; simp
  clear hs
  induction pre generalizing s with
  | nil => exact h0
  | cons x pre ih =>
    refine ih _ ?_
    show (dStep l M s x).2.length = _
    unfold dStep
    split
    · exact h0
    · simpa using h0
theorem dF_lt (l : List Int) (M : Nat) (hM : 0 < M) (pre : List (Fin l.length)) : (dF l M pre).1 < M := by
  unfold dF
  generalize hs : ((0, List.replicate l.length 0) : Nat × List Int) = s
  have h0 : s.1 < M := by rw [← hs]; exact hM
  clear hs
  induction pre generalizing s with
  | nil => exact h0
  | cons x pre ih =>
    refine ih _ ?_
    show (dStep l M s x).1 < M
    unfold dStep
    split
    · assumption
    · exact Nat.mod_lt _ hM
theorem dT_lt (l : List Int) (hl : vl l) (M r : Nat) (hr : r < M) (x : Fin l.length) : dT l r x < M * 1000000000 := by
  have := vl_rd hl x.isLt
  unfold dT
  have h2 : 1000000000 * (r + 1) ≤ 1000000000 * M := Nat.mul_le_mul_left _ hr
  rw [Nat.mul_comm M]
  omega
theorem digit_lt (T M : Nat) (_hM : 0 < M) (h : T < M * 1000000000) : T / M < 1000000000 := Nat.div_lt_of_lt_mul h
theorem digit_of_search (T M r : Nat) (hM : 0 < M) (hT : T < M * 1000000000) (hr : r ≤ 999999999) (h1 : ∀ t, t < r → decide (T < M * (t + 1)) = false) (h2 : r < 999999999 → decide (T < M * (r + 1)) = true) : T / M = r := by
  apply Nat.le_antisymm
  · rcases Nat.lt_or_ge r 999999999 with h | h
    · have := of_decide_eq_true (h2 h)
      exact Nat.lt_succ_iff.1 ((Nat.div_lt_iff_lt_mul hM).2 (by rw [Nat.mul_comm]; exact this))
    · have := digit_lt T M hM hT
      omega
  · rcases Nat.eq_zero_or_pos r with h | h
    · rw [h]; exact Nat.zero_le _
    · have := of_decide_eq_false (h1 (r - 1) (by omega))
      rw [show r - 1 + 1 = r by omega] at this
      exact (Nat.le_div_iff_mul_le hM).2 (by rw [Nat.mul_comm]; omega)

theorem div_law (l : List Int) (hl : vl l) (M : Nat) (hM : 0 < M) : ∀ k, k ≤ l.length →
    (dF l M (dn l.length k)).1 = numL (l.drop (l.length - k)) % M ∧ vl (dF l M (dn l.length k)).2 ∧ (∀ j, j < l.length - k → rd (dF l M (dn l.length k)).2 (j : Int) = 0) ∧
    numL ((dF l M (dn l.length k)).2.drop (l.length - k)) = numL (l.drop (l.length - k)) / M
  | 0, _ => by
    rw [show dn l.length 0 = [] by simp [dn], dF_nil, Nat.sub_zero, List.drop_length]
    refine ⟨by simp [numL], vl_zeros _, fun j hj => ?_, ?_⟩
    · rw [rd_lt (by simpa using hj)]; simp
    · rw [List.drop_eq_nil_of_le (by simp)]; simp [numL]
  | k + 1, hk => by
    obtain ⟨e1, e2, e3, e4⟩ := div_law l hl M hM k (by omega)
    rw [dn_succ (by omega), dF_snoc]
    have hlen := dF_len l M (dn l.length k)
    have hlt := dF_lt l M hM (dn l.length k)
    generalize dF l M (dn l.length k) = s at *
    have hx : l.length - 1 - k < l.length := by omega
    have hd := numL_drop hx
    rw [show l.length - 1 - k + 1 = l.length - k by omega] at hd
    rw [show l.length - (k + 1) = l.length - 1 - k by omega]
    have hd2 : ∀ q : List Int, q.length = l.length → numL (q.drop (l.length - 1 - k)) = (rd q ((l.length - 1 - k : Nat) : Int)).toNat + 1000000000 * numL (q.drop (l.length - k)) := fun q hq => by
      have := numL_drop (l := q) (i := l.length - 1 - k) (by omega)
      rwa [show l.length - 1 - k + 1 = l.length - k by omega] at this
    have hTd : dT l s.1 (l.length - 1 - k) = (rd l ((l.length - 1 - k : Nat) : Int)).toNat + 1000000000 * s.1 := rfl
    generalize hV : numL (l.drop (l.length - k)) = V at *
    generalize hT : dT l s.1 (l.length - 1 - k) = T at *
    have hVT : numL (l.drop (l.length - 1 - k)) = M * (1000000000 * (V / M)) + T := by
      rw [hd, hTd, e1]
      have := Nat.div_add_mod V M
      have h2 : 1000000000 * V = M * (1000000000 * (V / M)) + 1000000000 * (V % M) := by
        rw [← Nat.mul_assoc, Nat.mul_comm M, Nat.mul_assoc, ← Nat.mul_add, this]
      omega
    have hq1 : numL (l.drop (l.length - 1 - k)) / M = 1000000000 * (V / M) + T / M := by
      rw [hVT, Nat.mul_add_div hM]
    have hr1 : numL (l.drop (l.length - 1 - k)) % M = T % M := by
      rw [hVT, Nat.mul_add_mod]
    rw [hq1, hr1]
    have hstep : dStep l M s ((⟨l.length - 1 - k, by omega⟩ : Fin l.length) : Nat) = if T < M then (T, s.2) else (T % M, s.2.set (l.length - 1 - k) ((T / M : Nat) : Int)) := by
      unfold dStep
      rw [show dT l s.1 ((⟨l.length - 1 - k, by omega⟩ : Fin l.length) : Nat) = T from hT]
    rw [hstep]
    split
    · rename_i hTM
      refine ⟨(Nat.mod_eq_of_lt hTM).symm, e2, fun j hj => e3 j (by omega), ?_⟩
      rw [hd2 s.2 hlen, e3 _ (by omega), e4, Nat.div_eq_of_lt hTM]
      simp
    · rename_i hTM
      have hTlt : T < M * 1000000000 := by
        have := dT_lt l hl M s.1 hlt ⟨l.length - 1 - k, hx⟩
        rwa [show dT l s.1 ((⟨l.length - 1 - k, hx⟩ : Fin l.length) : Nat) = T from hT] at this
      have hdig := digit_lt T M hM hTlt
      generalize T / M = dg at *
      refine ⟨rfl, vl_set e2 _ (by omega) (by omega), fun j hj => ?_, ?_⟩
      · have h1 := e3 j (by omega)
        rw [rd_lt (by simp; omega), List.getElem_set_ne (by omega)]
        rwa [rd_lt (by omega)] at h1
      · rw [hd2 _ (by simpa using hlen), rd_lt (by simp; omega), List.getElem_set_self, List.drop_set_of_lt (by omega), e4]
        omega
theorem div_fin (l : List Int) (hl : vl l) (M : Nat) (hM : 0 < M) : vl (dF l M (dn l.length l.length)).2 ∧ numL (dF l M (dn l.length l.length)).2 = numL l / M := by
  obtain ⟨_, e2, _, e4⟩ := div_law l hl M hM l.length (Nat.le_refl _)
  simp only [Nat.sub_self, List.drop_zero] at e4
  exact ⟨e2, e4⟩
theorem div_end (a M : Nat) (hM : 0 < M) : (dF (limbs a) M (dn (limbs a).length (limbs a).length)).1 = a % M ∧ vl (dF (limbs a) M (dn (limbs a).length (limbs a).length)).2 ∧ numL (dF (limbs a) M (dn (limbs a).length (limbs a).length)).2 = a / M := by
  obtain ⟨e1, e2, _, e4⟩ := div_law (limbs a) (vl_limbs a) M hM (limbs a).length (Nat.le_refl _)
  simp only [Nat.sub_self, List.drop_zero, num_limbs] at e1 e4
  exact ⟨e1, e2, e4⟩
end Go.Proofs.YtdojfnjgipeogaaGreatDoor
