/- NaturalDigits, walked by hand: one theorem for each case. -/
import Derived.Test.YtdojfnjgipeogaaDoorDigA
import Derived.Test.YtdojfnjgipeogaaDoorDigB
namespace Go.Proofs.YtdojfnjgipeogaaDoor
open Go.RowKit Go.Shelf Go.Proofs.YtdojfnjgipeogaaDoorW.PrintWords Go.Proofs.YtdojfnjgipeogaaDoorW.PrintMore NatB La
set_option linter.unusedSimpArgs false
set_option linter.unusedVariables false
set_option maxHeartbeats 4000000 in
set_option maxRecDepth 1000000 in
theorem digBig1 (n : Int) (a b : ByteArray) (w : World) (hG : GOK w) (hla : (a.size : Int) > 400) :
    Calls Tryd.prog 3 #[.int .i64 n, .string a, .string b] w fun e w' => e = .returned (.bool true) ∧ Below w.heap.size w w' := by
  have d1 : decide ((a.size : Int) > 400) = true := decide_eq_true hla
  go_enter Tryd.func3, Tryd.ntmps3
  go_wp2_with (go_at_call 11; refine (headC _ hG).mono ?_; rintro e w1 ⟨rfl, hb1⟩; have hbw := hb1)
  go_ret
  exact ⟨rfl, hbw⟩
set_option maxHeartbeats 4000000 in
set_option maxRecDepth 1000000 in
theorem digBig2 (n : Int) (a b : ByteArray) (w : World) (hG : GOK w) (hla : (a.size : Int) ≤ 400) (hlb : (b.size : Int) > 400) :
    Calls Tryd.prog 3 #[.int .i64 n, .string a, .string b] w fun e w' => e = .returned (.bool true) ∧ Below w.heap.size w w' := by
  have d1 : decide ((a.size : Int) > 400) = false := decide_eq_false (by omega)
  have d2 : decide ((b.size : Int) > 400) = true := decide_eq_true hlb
  go_enter Tryd.func3, Tryd.ntmps3
  go_wp2_with (go_at_call 11; refine (headC _ hG).mono ?_; rintro e w1 ⟨rfl, hb1⟩; have hbw := hb1)
  go_ret
  exact ⟨rfl, hbw⟩

theorem cmpI_e (a : Int) : cmpI a a = 0 := by unfold cmpI; rw [if_neg (by omega), if_neg (by omega)]
theorem i64_range {a : Int} (h : (Lit.int .i64 a).wf = true) : -9223372036854775808 ≤ a ∧ a ≤ 9223372036854775807 := by
  simp [Lit.wf] at h
  have e1 : IntKind.i64.min = -9223372036854775808 := by decide
  have e2 : IntKind.i64.max = 9223372036854775807 := by decide
  try rw [e1] at h
  try rw [e2] at h
  exact h
theorem ok_i64 {n : Nat} (h : n ≤ 9223372036854775807) : ok n := by
  have h1 := dec_le n 18 (by omega)
  unfold ok
  omega
theorem naturalDigits_calls (n : Int) (a b : ByteArray) (w : World) (hG : GOK w) (wn : (Lit.int .i64 n).wf = true) :
    Calls Tryd.prog 3 #[.int .i64 n, .string a, .string b] w fun e w' => e = .returned (.bool true) ∧ Below w.heap.size w w' := by
  obtain ⟨r0, r1⟩ := i64_range wn
  by_cases hla : (a.size : Int) > 400
  · exact digBig1 n a b w hG hla
  by_cases hlb : (b.size : Int) > 400
  · exact digBig2 n a b w hG (by omega) hlb
  have hla : (a.size : Int) ≤ 400 := by omega
  have hlb : (b.size : Int) ≤ 400 := by omega
  by_cases hn : 0 ≤ n
  · obtain ⟨m, rfl⟩ : ∃ m : Nat, n = m := ⟨n.toNat, by omega⟩
    have hok : ok m := ok_i64 (by omega)
    have q1 : natural_Of.f (m : Int) = some (dec m) := by unfold natural_Of.f; rw [if_pos (by omega), if_neg (by omega), Int.toNat_natCast]
    have q2 : natural_Int.f (dec m) = some ((m : Int), 0) := by unfold natural_Int.f; rw [if_pos (isN_ok hok), val_dec, if_pos (by omega)]
    have q7 := is_t (isN_ok hok)
    by_cases ha : isN a
    · by_cases hv : val a ≤ 9223372036854775807
      · have q3 : natural_Int.f a = some ((val a : Int), 0) := by unfold natural_Int.f; rw [if_pos ha, if_pos hv]
        have qo : natural_Of.f (val a : Int) = some a := by unfold natural_Of.f; rw [if_pos (by omega), if_neg (by omega), Int.toNat_natCast, dec_val a ha]
        by_cases hb : isN b
        · by_cases he : val a = val b
          · have hab : a = b := by rw [← dec_val a ha, ← dec_val b hb, he]
            subst hab
            exact digAv1 _ _ _ _ _ hG hla hn q1 q2 q7 q3 qo (by rw [cmp_f ha ha, cmpI_e]) (is_t ha)
          · have hab : a ≠ b := fun e => he (by rw [e])
            exact digAv2 _ _ _ _ _ _ _ hG hla hlb hn q1 q2 q7 q3 qo (cmp_f ha hb) (fun e => he (by have := (cmpI_zero _ _).1 e; omega)) hab (is_t ha) (is_t hb)
        · exact digAv3 _ _ _ _ _ _ hG hla hlb hn q1 q2 q7 q3 qo (cmp_n (fun h => hb h.2)) (is_t ha) (is_n hb)
      · have q3 : natural_Int.f a = some (0, 10) := by unfold natural_Int.f; rw [if_pos ha, if_neg hv]
        by_cases hb : isN b
        · by_cases he : val a = val b
          · have hab : a = b := by rw [← dec_val a ha, ← dec_val b hb, he]
            subst hab
            exact digAr1 _ _ _ _ hG hla hn q1 q2 q7 q3 (by rw [cmp_f ha ha, cmpI_e]) (is_t ha)
          · have hab : a ≠ b := fun e => he (by rw [e])
            exact digAr2 _ _ _ _ _ _ hG hla hlb hn q1 q2 q7 q3 (cmp_f ha hb) (fun e => he (by have := (cmpI_zero _ _).1 e; omega)) hab (is_t ha) (is_t hb)
        · exact digAr3 _ _ _ _ _ hG hla hlb hn q1 q2 q7 q3 (cmp_n (fun h => hb h.2)) (is_t ha) (is_n hb)
    · have q3 : natural_Int.f a = some (0, 1) := by unfold natural_Int.f; rw [if_neg ha]
      exact digAn _ _ _ _ _ hG hla hlb hn q1 q2 q7 q3 (cmp_n (fun h => ha h.1)) (is_n ha)
  · have hn : n < 0 := by omega
    have q1 : natural_Of.f n = some ⟨#[]⟩ := by unfold natural_Of.f; rw [if_pos (by omega), if_pos hn]
    have q2 : natural_Int.f ⟨#[]⟩ = some (0, 1) := by unfold natural_Int.f; rw [if_neg nil_not]
    by_cases ha : isN a
    · by_cases hv : val a ≤ 9223372036854775807
      · have q3 : natural_Int.f a = some ((val a : Int), 0) := by unfold natural_Int.f; rw [if_pos ha, if_pos hv]
        have qo : natural_Of.f (val a : Int) = some a := by unfold natural_Of.f; rw [if_pos (by omega), if_neg (by omega), Int.toNat_natCast, dec_val a ha]
        by_cases hb : isN b
        · by_cases he : val a = val b
          · have hab : a = b := by rw [← dec_val a ha, ← dec_val b hb, he]
            subst hab
            exact digBv1 _ _ _ _ hG hla hn q1 q2 q3 qo (by rw [cmp_f ha ha, cmpI_e]) (is_t ha)
          · have hab : a ≠ b := fun e => he (by rw [e])
            exact digBv2 _ _ _ _ _ _ hG hla hlb hn q1 q2 q3 qo (cmp_f ha hb) (fun e => he (by have := (cmpI_zero _ _).1 e; omega)) hab (is_t ha) (is_t hb)
        · exact digBv3 _ _ _ _ _ hG hla hlb hn q1 q2 q3 qo (cmp_n (fun h => hb h.2)) (is_t ha) (is_n hb)
      · have q3 : natural_Int.f a = some (0, 10) := by unfold natural_Int.f; rw [if_pos ha, if_neg hv]
        by_cases hb : isN b
        · by_cases he : val a = val b
          · have hab : a = b := by rw [← dec_val a ha, ← dec_val b hb, he]
            subst hab
            exact digBr1 _ _ _ hG hla hn q1 q2 q3 (by rw [cmp_f ha ha, cmpI_e]) (is_t ha)
          · have hab : a ≠ b := fun e => he (by rw [e])
            exact digBr2 _ _ _ _ _ hG hla hlb hn q1 q2 q3 (cmp_f ha hb) (fun e => he (by have := (cmpI_zero _ _).1 e; omega)) hab (is_t ha) (is_t hb)
        · exact digBr3 _ _ _ _ hG hla hlb hn q1 q2 q3 (cmp_n (fun h => hb h.2)) (is_t ha) (is_n hb)
    · have q3 : natural_Int.f a = some (0, 1) := by unfold natural_Int.f; rw [if_neg ha]
      exact digBn _ _ _ _ hG hla hlb hn q1 q2 q3 (cmp_n (fun h => ha h.1)) (is_n ha)
end Go.Proofs.YtdojfnjgipeogaaDoor
