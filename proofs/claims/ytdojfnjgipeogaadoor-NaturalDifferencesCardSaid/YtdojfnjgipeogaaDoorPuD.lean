/- The plain laws: Differences, Quotients. -/
import Derived.Test.YtdojfnjgipeogaaDoorLax5
import Derived.Test.YtdojfnjgipeogaaDoorNatZ
namespace Go.Proofs.YtdojfnjgipeogaaDoor
open Go.RowKit Go.Shelf Go.Proofs.YtdojfnjgipeogaaDoorW.PrintWords Go.Proofs.YtdojfnjgipeogaaDoorW.PrintMore NatB La
set_option linter.unusedSimpArgs false
set_option linter.unusedVariables false

theorem head_pure (k : Nat) : customhouselaw04_head.f (k + 1) = some true := by
  unfold customhouselaw04_head.f
  simp only [h1, h2, h3, h4, h5, h6, h7, Option.bind_some, Lib.toList_data]
  simp [customhouselaw04_head.j0, h8, h9, h10, h11, h12, Lib.toList_data]

theorem NaturalDifferences_pure (a b : ByteArray) : ∃ k, customhouselaw04_NaturalDifferences.f k a b = some true := by
  refine ⟨0 + 1 + 1 + 1, ?_⟩
  unfold customhouselaw04_NaturalDifferences.f
  rw [head_pure, Option.bind_some]
  by_cases ha : isN a
  · by_cases hb : isN b
    · have e0 : dec (val a - val a) = ⟨#[48]⟩ := by rw [Nat.sub_self]; exact dec_lit _ (by decide) _ rfl
      have e1 : dec (val a + val b - val b) = a := by rw [Nat.add_sub_cancel]; exact dec_val a ha
      simp only [is_t ha, is_t hb, Option.bind_some, if_true, Bool.not_true]
      simp only [customhouselaw04_NaturalDifferences.j0, Bool.false_eq_true, if_false]
      rw [add_f ha hb, sub_f ha ha (Nat.le_refl _), e0]
      by_cases h1 : ok (val a + val b)
      · rw [lim_pos h1]
        simp only [Option.bind_some]
        rw [sub_f (isN_ok h1) hb (by rw [val_dec]; omega), val_dec, e1]
        by_cases hab : val b ≤ val a
        · have e2 : dec (val a - val b + val b) = a := by rw [Nat.sub_add_cancel hab]; exact dec_val a ha
          have ok2 : ok (val a - val b) := ok_le (Nat.sub_le _ _) (ok_val ha)
          rw [sub_f ha hb hab]
          simp only [Option.bind_some]
          rw [add_f (isN_ok ok2) hb, val_dec, lim_pos (by rw [Nat.sub_add_cancel hab]; exact ok_val ha), e2]
          simp [Lib.toList_data]
        · rw [sub_r ha hb hab]
          simp only [Option.bind_some]
          rw [add_n (fun h => nil_not h.1)]
          simp [Lib.toList_data]
      · rw [lim_neg h1]
        simp only [Option.bind_some]
        rw [sub_n (fun h => nil_not h.1)]
        by_cases hab : val b ≤ val a
        · have e2 : dec (val a - val b + val b) = a := by rw [Nat.sub_add_cancel hab]; exact dec_val a ha
          have ok2 : ok (val a - val b) := ok_le (Nat.sub_le _ _) (ok_val ha)
          rw [sub_f ha hb hab]
          simp only [Option.bind_some]
          rw [add_f (isN_ok ok2) hb, val_dec, lim_pos (by rw [Nat.sub_add_cancel hab]; exact ok_val ha), e2]
          simp [Lib.toList_data]
        · rw [sub_r ha hb hab]
          simp only [Option.bind_some]
          rw [add_n (fun h => nil_not h.1)]
          simp [Lib.toList_data]
    · simp [is_t ha, is_n hb, customhouselaw04_NaturalDifferences.j0]
  · simp [is_n ha, customhouselaw04_NaturalDifferences.j0]

theorem NaturalQuotients_pure (a b c : ByteArray) : ∃ k, customhouselaw04_NaturalQuotients.f k a b c = some true := by
  refine ⟨0 + 1 + 1 + 1, ?_⟩
  unfold customhouselaw04_NaturalQuotients.f
  rw [head_pure, Option.bind_some]
  by_cases ha : isN a
  · by_cases hb : isN b
    · by_cases hc : isN c
      · simp only [is_t ha, is_t hb, is_t hc, Option.bind_some, if_true]
        by_cases hz : val b = 0
        · have e : b.toList = ([48] : List UInt8) := by rw [(zero_val b hb).2 hz, Lib.toList_data]
          rw [e]
          simp [customhouselaw04_NaturalQuotients.j0]
        · have e : (b.toList == ([48] : List UInt8)) = false := by
            rw [beq_eq_false_iff_ne]
            intro e
            refine hz ((zero_val b hb).1 ?_)
            rw [Lib.toList_data] at e
            obtain ⟨⟨l⟩⟩ := b
            rw [show l = [48] from e]
          rw [e]
          have okq : ok (val a / val b) := ok_le (Nat.div_le_self _ _) (ok_val ha)
          have okr : ok (val a % val b) := ok_le (Nat.mod_le _ _) (ok_val ha)
          have ep : val a / val b * val b + val a % val b = val a := by rw [Nat.mul_comm]; exact Nat.div_add_mod _ _
          have okp : ok (val a / val b * val b) := ok_le (Nat.div_mul_le_self _ _) (ok_val ha)
          have hlt : val a % val b < val b := Nat.mod_lt _ (by omega)
          have ec : cmpI ((val a % val b : Nat) : Int) (val b : Int) = -1 := by unfold cmpI; rw [if_pos (by omega)]
          simp only [customhouselaw04_NaturalQuotients.j0, Bool.false_eq_true, if_false]
          rw [div_f ha hb hz]
          simp only [Option.bind_some, Bool.false_eq_true, if_false]
          rw [mul_f (isN_ok okq) hb, val_dec, lim_pos okp]
          simp only [Option.bind_some]
          rw [add_f (isN_ok okp) (isN_ok okr), val_dec, val_dec, ep, lim_pos (ok_val ha), dec_val a ha, cmp_f (isN_ok okr) hb, val_dec, ec]
          simp only [Option.bind_some, if_true]
          simp only [customhouselaw04_NaturalQuotients.j1, Bool.false_eq_true, if_false]
          rw [show ((-1 : Int) != -1) = false from rfl, if_neg (by simp), mul_f hc hb]
          by_cases h1 : ok (val c * val b)
          · rw [lim_pos h1]
            simp only [Option.bind_some]
            rw [add_f (isN_ok h1) (isN_ok okr), val_dec, val_dec]
            by_cases h2 : ok (val c * val b + val a % val b)
            · rw [lim_pos h2]
              simp only [Option.bind_some]
              rw [div_f (isN_ok h2) hb hz, val_dec]
              have e1 : (val c * val b + val a % val b) / val b = val c := by rw [Nat.mul_comm, Nat.mul_add_div (by omega), Nat.div_eq_of_lt hlt, Nat.add_zero]
              have e2 : (val c * val b + val a % val b) % val b = val a % val b := by rw [Nat.mul_comm, Nat.mul_add_mod, Nat.mod_mod]
              rw [e1, e2, dec_val c hc]
              simp
            · rw [lim_neg h2]
              simp
          · rw [lim_neg h1]
            simp only [Option.bind_some]
            rw [add_n (fun h => nil_not h.1)]
            simp
      · simp [is_t ha, is_t hb, is_n hc, customhouselaw04_NaturalQuotients.j0]
    · simp [is_t ha, is_n hb, customhouselaw04_NaturalQuotients.j0]
  · simp [is_n ha, customhouselaw04_NaturalQuotients.j0]
end Go.Proofs.YtdojfnjgipeogaaDoor
