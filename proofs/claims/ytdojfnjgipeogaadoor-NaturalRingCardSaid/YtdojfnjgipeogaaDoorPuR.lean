/- The plain law: Ring. -/
import Derived.Test.YtdojfnjgipeogaaDoorLax3
import Derived.Test.YtdojfnjgipeogaaDoorNatZ
namespace Go.Proofs.YtdojfnjgipeogaaDoor
open Go.RowKit Go.Shelf Go.Proofs.YtdojfnjgipeogaaDoorW.PrintWords Go.Proofs.YtdojfnjgipeogaaDoorW.PrintMore NatB La
set_option linter.unusedSimpArgs false
set_option linter.unusedVariables false

theorem head_pure (k : Nat) : customhouselaw04_head.f (k + 1) = some true := by
  unfold customhouselaw04_head.f
  simp only [h1, h2, h3, h4, h5, h6, h7, Option.bind_some, Lib.toList_data]
  simp [customhouselaw04_head.j0, h8, h9, h10, h11, h12, Lib.toList_data]

theorem add_l {n : Nat} {c : ByteArray} (hc : isN c) (h : ok (n + val c)) : natural_Add.f (lim n).1 c = some (dec (n + val c), 0) := by
  have hn : ok n := ok_le (Nat.le_add_right _ _) h
  rw [lim_pos hn, add_f (isN_ok hn) hc, val_dec, lim_pos h]
theorem add_l_not {n : Nat} {c : ByteArray} (hc : isN c) (h : ¬ ok (n + val c)) : ∃ e, e ≠ 0 ∧ natural_Add.f (lim n).1 c = some (⟨#[]⟩, e) := by
  by_cases hn : ok n
  · exact ⟨2, by decide, by rw [lim_pos hn, add_f (isN_ok hn) hc, val_dec, lim_neg h]⟩
  · exact ⟨1, by decide, by rw [lim_neg hn]; exact add_n (fun h => nil_not h.1)⟩
theorem add_r {n : Nat} {a : ByteArray} (ha : isN a) (h : ok (val a + n)) : natural_Add.f a (lim n).1 = some (dec (val a + n), 0) := by
  have hn : ok n := ok_le (Nat.le_add_left _ _) h
  rw [lim_pos hn, add_f ha (isN_ok hn), val_dec, lim_pos h]
theorem add_r_not {n : Nat} {a : ByteArray} (ha : isN a) (h : ¬ ok (val a + n)) : ∃ e, e ≠ 0 ∧ natural_Add.f a (lim n).1 = some (⟨#[]⟩, e) := by
  by_cases hn : ok n
  · exact ⟨2, by decide, by rw [lim_pos hn, add_f ha (isN_ok hn), val_dec, lim_neg h]⟩
  · exact ⟨1, by decide, by rw [lim_neg hn]; exact add_n (fun h => nil_not h.2)⟩

theorem ring3 (k : Nat) (a b c : ByteArray) (ha : isN a) (hb : isN b) (hc : isN c) :
    customhouselaw04_NaturalRing.j3 (k + 1) a c true (lim (val b + val c)).1 (lim (val b + val c)).2 (lim (val a * val b)).1 false = some true := by
  simp only [customhouselaw04_NaturalRing.j3, Bool.false_eq_true, if_false]
  by_cases h1 : ok (val b + val c)
  · rw [lim_pos h1]
    simp only
    rw [mul_f ha (isN_ok h1), val_dec, mul_f ha hc]
    by_cases h2 : ok (val a * (val b + val c))
    · have e : val a * (val b + val c) = val a * val b + val a * val c := Nat.mul_add _ _ _
      have h3 : ok (val a * val b) := ok_le (by omega) h2
      have h4 : ok (val a * val c) := ok_le (by omega) h2
      rw [lim_pos h2, lim_pos h3, lim_pos h4]
      simp only [Option.bind_some]
      rw [add_f (isN_ok h3) (isN_ok h4), val_dec, val_dec, ← e, lim_pos h2]
      simp
    · rw [lim_neg h2]
      simp only [Option.bind_some]
      cases hz : natural_Add.f (lim (val a * val b)).1 (lim (val a * val c)).1 with
      | none => unfold natural_Add.f at hz; cases hz
      | some z => simp
  · rw [lim_neg h1]
    simp only
    rw [mul_n (fun h => nil_not h.2), mul_f ha hc]
    simp only [Option.bind_some]
    cases hz : natural_Add.f (lim (val a * val b)).1 (lim (val a * val c)).1 with
    | none => unfold natural_Add.f at hz; cases hz
    | some z => simp
theorem ring2 (k : Nat) (a b c : ByteArray) (ha : isN a) (hb : isN b) (hc : isN c) :
    customhouselaw04_NaturalRing.j2 (k + 1 + 1) a b c true (lim (val b + val c)).1 (lim (val b + val c)).2 (lim (val a * val b)).1 false = some true := by
  have hr := ring3 k a b c ha hb hc
  simp only [customhouselaw04_NaturalRing.j2, Bool.false_eq_true, if_false]
  rw [mul_f hb hc]
  by_cases h1 : ok (val a * val b)
  · by_cases h2 : ok (val b * val c)
    · rw [lim_pos h2]
      simp only [Option.bind_some]
      rw [mul_f ha (isN_ok h2), val_dec, ← Nat.mul_assoc]
      have e : natural_Mul.f (lim (val a * val b)).1 c = some (lim (val a * val b * val c)) := by rw [lim_pos h1, mul_f (isN_ok h1) hc, val_dec]
      rw [e]
      simp only [Option.bind_some, bne_self_eq_false, hr, ite_self]
    · rw [lim_neg h2]
      simp only [Option.bind_some]
      rw [mul_n (a := a) (fun h => nil_not h.2)]
      simp only [Option.bind_some]
      cases hz : natural_Mul.f (lim (val a * val b)).1 c with
      | none => unfold natural_Mul.f at hz; cases hz
      | some z => simp [hr]
  · have e : natural_Mul.f (lim (val a * val b)).1 c = some (⟨#[]⟩, 1) := by rw [lim_neg h1]; exact mul_n (fun h => nil_not h.1)
    rw [e]
    simp only [Option.bind_some]
    cases hz : natural_Mul.f a (lim (val b * val c)).1 with
    | none => unfold natural_Mul.f at hz; cases hz
    | some z => simp [hr]
theorem NaturalRing_pure (a b c : ByteArray) : ∃ k, customhouselaw04_NaturalRing.f k a b c = some true := by
  refine ⟨0 + 1 + 1 + 1 + 1 + 1, ?_⟩
  unfold customhouselaw04_NaturalRing.f
  rw [head_pure, Option.bind_some]
  by_cases ha : isN a
  · by_cases hb : isN b
    · by_cases hc : isN c
      · simp only [is_t ha, is_t hb, is_t hc, Option.bind_some, if_true, Bool.not_true]
        simp only [customhouselaw04_NaturalRing.j0, Bool.false_eq_true, if_false]
        rw [add_f ha hb, add_f hb ha, Nat.add_comm (val b) (val a), mul_f ha hb, mul_f hb ha, Nat.mul_comm (val b) (val a)]
        simp only [Option.bind_some, if_true, bne_self_eq_false]
        simp only [customhouselaw04_NaturalRing.j1, Bool.false_eq_true, if_false]
        rw [add_f hb hc]
        simp only [Option.bind_some]
        have hr := ring2 0 a b c ha hb hc
        by_cases h : ok (val a + val b + val c)
        · rw [add_l hc h, add_r ha (by rwa [← Nat.add_assoc]), ← Nat.add_assoc]
          simp only [Option.bind_some, bne_self_eq_false, Bool.false_eq_true, if_false]
          exact hr
        · obtain ⟨e1, n1, q1⟩ := add_l_not hc h
          obtain ⟨e2, n2, q2⟩ := add_r_not ha (show ¬ ok (val a + (val b + val c)) by rwa [← Nat.add_assoc])
          rw [q1, q2]
          have z1 : (e1 == 0) = false := by rw [beq_eq_false_iff_ne]; exact n1
          have z2 : (e2 == 0) = false := by rw [beq_eq_false_iff_ne]; exact n2
          simp only [Option.bind_some, z1, z2, bne_self_eq_false, Bool.false_eq_true, if_false]
          exact hr
      · simp [is_t ha, is_t hb, is_n hc, customhouselaw04_NaturalRing.j0]
    · simp [is_t ha, is_n hb, customhouselaw04_NaturalRing.j0]
  · simp [is_n ha, customhouselaw04_NaturalRing.j0]

end Go.Proofs.YtdojfnjgipeogaaDoor
