/- NaturalOrder, walked by hand: one theorem for each case. -/
import Derived.Test.YtdojfnjgipeogaaDoorOrdA
import Derived.Test.YtdojfnjgipeogaaDoorOrdB
import Derived.Test.YtdojfnjgipeogaaDoorOrdC
namespace Go.Proofs.YtdojfnjgipeogaaDoor
open Go.RowKit Go.Shelf Go.Proofs.YtdojfnjgipeogaaDoorW.PrintWords Go.Proofs.YtdojfnjgipeogaaDoorW.PrintMore NatB La
set_option linter.unusedSimpArgs false
set_option linter.unusedVariables false
set_option maxHeartbeats 4000000
set_option maxRecDepth 1000000
theorem ordNo1 (a b c : ByteArray) (w : World) (hG : GOK w)
    (i1 : natural_Is.f a = some false) :
    Calls Tryd.prog 6 #[.string a, .string b, .string c] w fun e w' => e = .returned (.bool true) ∧ Below w.heap.size w w' := by
  go_enter Tryd.func6, Tryd.ntmps6
  go_wp2_with (first
    | (go_at_call 11; refine (headCA _ hG).mono ?_; rintro e w1 ⟨rfl, hb1⟩; have hbw := hb1)
    | (go_at_call_of 14 (#[Value.string a]); refine (natural_Is.calls _ _ _ i1).mono ?_; rintro e v ⟨rfl, h⟩; have hbw := bthen hbw h))
  go_ret
  exact ⟨rfl, hbw⟩
theorem ordNo2 (a b c : ByteArray) (w : World) (hG : GOK w)
    (i1 : natural_Is.f a = some true) (i2 : natural_Is.f b = some false) :
    Calls Tryd.prog 6 #[.string a, .string b, .string c] w fun e w' => e = .returned (.bool true) ∧ Below w.heap.size w w' := by
  go_enter Tryd.func6, Tryd.ntmps6
  go_wp2_with (first
    | (go_at_call 11; refine (headCA _ hG).mono ?_; rintro e w1 ⟨rfl, hb1⟩; have hbw := hb1)
    | (go_at_call_of 14 (#[Value.string a]); refine (natural_Is.calls _ _ _ i1).mono ?_; rintro e v ⟨rfl, h⟩; have hbw := bthen hbw h)
    | (go_at_call_of 14 (#[Value.string b]); refine (natural_Is.calls _ _ _ i2).mono ?_; rintro e v ⟨rfl, h⟩; have hbw := bthen hbw h))
  go_ret
  exact ⟨rfl, hbw⟩
theorem ordNo3 (a b c : ByteArray) (w : World) (hG : GOK w)
    (i1 : natural_Is.f a = some true) (i2 : natural_Is.f b = some true) (i3 : natural_Is.f c = some false) :
    Calls Tryd.prog 6 #[.string a, .string b, .string c] w fun e w' => e = .returned (.bool true) ∧ Below w.heap.size w w' := by
  go_enter Tryd.func6, Tryd.ntmps6
  go_wp2_with (first
    | (go_at_call 11; refine (headCA _ hG).mono ?_; rintro e w1 ⟨rfl, hb1⟩; have hbw := hb1)
    | (go_at_call_of 14 (#[Value.string a]); refine (natural_Is.calls _ _ _ i1).mono ?_; rintro e v ⟨rfl, h⟩; have hbw := bthen hbw h)
    | (go_at_call_of 14 (#[Value.string b]); refine (natural_Is.calls _ _ _ i2).mono ?_; rintro e v ⟨rfl, h⟩; have hbw := bthen hbw h)
    | (go_at_call_of 14 (#[Value.string c]); refine (natural_Is.calls _ _ _ i3).mono ?_; rintro e v ⟨rfl, h⟩; have hbw := bthen hbw h))
  go_ret
  exact ⟨rfl, hbw⟩
theorem cmpI_l {a b : Int} (h : a < b) : cmpI a b = -1 := by unfold cmpI; rw [if_pos h]
theorem cmpI_g {a b : Int} (h : b < a) : cmpI a b = 1 := by unfold cmpI; rw [if_neg (by omega), if_pos h]
theorem cmpI_e (a : Int) : cmpI a a = 0 := by unfold cmpI; rw [if_neg (by omega), if_neg (by omega)]
theorem cmp_add (a b c : Nat) : cmpI ((a + c : Nat) : Int) ((b + c : Nat) : Int) = cmpI (a : Int) (b : Int) := by
  rcases Nat.lt_trichotomy a b with h | h | h
  · rw [cmpI_l (by omega), cmpI_l (by omega)]
  · rw [h, cmpI_e, cmpI_e]
  · rw [cmpI_g (by omega), cmpI_g (by omega)]
theorem cmp_mul (a b c : Nat) (hc : 0 < c) : cmpI ((a * c : Nat) : Int) ((b * c : Nat) : Int) = cmpI (a : Int) (b : Int) := by
  rcases Nat.lt_trichotomy a b with h | h | h
  · have := Nat.mul_lt_mul_of_pos_right h hc
    rw [cmpI_l (by omega), cmpI_l (by omega)]
  · rw [h, cmpI_e, cmpI_e]
  · have := Nat.mul_lt_mul_of_pos_right h hc
    rw [cmpI_g (by omega), cmpI_g (by omega)]
/-- A sum or a product, and how it compares: with an error on the one side, or on the other one, or with neither. -/
theorem lims (X Y : Nat) (z : Int) (hz : cmpI (X : Int) (Y : Int) = z) : (lim X).2 = 2 ∨ ((lim X).2 = 0 ∧ (lim Y).2 = 2) ∨ ((lim X).2 = 0 ∧ (lim Y).2 = 0 ∧ natural_Compare.f (lim X).1 (lim Y).1 = some (z, 0)) := by
  by_cases x : ok X
  · by_cases y : ok Y
    · right; right
      rw [lim_pos x, lim_pos y]
      exact ⟨rfl, rfl, by rw [cmp_f (isN_ok x) (isN_ok y), val_dec, val_dec, hz]⟩
    · right; left; rw [lim_pos x, lim_neg y]; exact ⟨rfl, rfl⟩
  · left; rw [lim_neg x]
theorem any_cmp (x y : ByteArray) : natural_Compare.f x y = some ((if isN x ∧ isN y then (cmpI (val x : Int) (val y : Int), 0) else ((0 : Int), (1 : Int))).1, (if isN x ∧ isN y then (cmpI (val x : Int) (val y : Int), 0) else ((0 : Int), (1 : Int))).2) := rfl
theorem pr {X : Nat} {x : Int} (h : (lim X).2 = x) : some (lim X) = some ((lim X).1, x) := by rw [← h]
theorem ordAll1 (a b c : ByteArray) (w : World) (hG : GOK w) (ha : isN a) (hb : isN b) (hc : isN c) (c1 : cmpI (val a : Int) (val b : Int) = 1) (c2 : cmpI (val b : Int) (val a : Int) = (-1)) :
    Calls Tryd.prog 6 #[.string a, .string b, .string c] w fun e w' => e = .returned (.bool true) ∧ Below w.heap.size w w' := by
  have C1 := cmp_f ha hb
  have C2 := cmp_f hb ha
  have C3 := cmp_f hb hc
  have C4 := cmp_f ha hc
  rw [c1] at C1
  rw [c2] at C2
  obtain ⟨d, S1⟩ : ∃ d, natural_Sub.f a b = some (d, 0) := ⟨_, sub_f ha hb (by have := (cmpI_neg (val a : Int) (val b : Int)); rw [c1] at this; simp at this; omega)⟩
  have A1 := add_f ha hc
  have A2 := add_f hb hc
  have M1 := mul_f ha hc
  have M2 := mul_f hb hc
  have I1 := is_t ha
  have I2 := is_t hb
  have I3 := is_t hc
  rcases lims _ _ 1 ((cmp_add (val a) (val b) (val c)).trans c1) with h1 | ⟨h1, h2⟩ | ⟨h1, h2, h3⟩
  · by_cases hz : c = ⟨#[48]⟩
    · subst hz
      exact ord1az (w := w) (hG := hG) (i1 := I1) (i2 := I2) (i3 := I3) (c1 := C1) (c2 := C2) (c3 := C3) (c4 := C4) (s1 := S1) (a1 := (A1.trans (pr h1))) (a2 := A2) (c5 := (any_cmp _ _)) (m1 := M1) (m2 := M2) (c6 := any_cmp _ _)
    · have hp : 0 < val c := Nat.pos_of_ne_zero fun h => hz ((zero_val c hc).2 h)
      rcases lims _ _ 1 ((cmp_mul (val a) (val b) (val c) hp).trans c1) with g1 | ⟨g1, g2⟩ | ⟨g1, g2, g3⟩
      · exact ord1aa (w := w) (hG := hG) (i1 := I1) (i2 := I2) (i3 := I3) (c1 := C1) (c2 := C2) (c3 := C3) (c4 := C4) (s1 := S1) (a1 := (A1.trans (pr h1))) (a2 := A2) (c5 := (any_cmp _ _)) (m1 := M1.trans (pr g1)) (m2 := M2) (c6 := any_cmp _ _) (hc := hz)
      · exact ord1ab (w := w) (hG := hG) (i1 := I1) (i2 := I2) (i3 := I3) (c1 := C1) (c2 := C2) (c3 := C3) (c4 := C4) (s1 := S1) (a1 := (A1.trans (pr h1))) (a2 := A2) (c5 := (any_cmp _ _)) (m1 := M1.trans (pr g1)) (m2 := M2.trans (pr g2)) (c6 := any_cmp _ _) (hc := hz)
      · exact ord1ac (w := w) (hG := hG) (i1 := I1) (i2 := I2) (i3 := I3) (c1 := C1) (c2 := C2) (c3 := C3) (c4 := C4) (s1 := S1) (a1 := (A1.trans (pr h1))) (a2 := A2) (c5 := (any_cmp _ _)) (m1 := M1.trans (pr g1)) (m2 := M2.trans (pr g2)) (c6 := g3) (hc := hz)
  · by_cases hz : c = ⟨#[48]⟩
    · subst hz
      exact ord1bz (w := w) (hG := hG) (i1 := I1) (i2 := I2) (i3 := I3) (c1 := C1) (c2 := C2) (c3 := C3) (c4 := C4) (s1 := S1) (a1 := (A1.trans (pr h1))) (a2 := (A2.trans (pr h2))) (c5 := (any_cmp _ _)) (m1 := M1) (m2 := M2) (c6 := any_cmp _ _)
    · have hp : 0 < val c := Nat.pos_of_ne_zero fun h => hz ((zero_val c hc).2 h)
      rcases lims _ _ 1 ((cmp_mul (val a) (val b) (val c) hp).trans c1) with g1 | ⟨g1, g2⟩ | ⟨g1, g2, g3⟩
      · exact ord1ba (w := w) (hG := hG) (i1 := I1) (i2 := I2) (i3 := I3) (c1 := C1) (c2 := C2) (c3 := C3) (c4 := C4) (s1 := S1) (a1 := (A1.trans (pr h1))) (a2 := (A2.trans (pr h2))) (c5 := (any_cmp _ _)) (m1 := M1.trans (pr g1)) (m2 := M2) (c6 := any_cmp _ _) (hc := hz)
      · exact ord1bb (w := w) (hG := hG) (i1 := I1) (i2 := I2) (i3 := I3) (c1 := C1) (c2 := C2) (c3 := C3) (c4 := C4) (s1 := S1) (a1 := (A1.trans (pr h1))) (a2 := (A2.trans (pr h2))) (c5 := (any_cmp _ _)) (m1 := M1.trans (pr g1)) (m2 := M2.trans (pr g2)) (c6 := any_cmp _ _) (hc := hz)
      · exact ord1bc (w := w) (hG := hG) (i1 := I1) (i2 := I2) (i3 := I3) (c1 := C1) (c2 := C2) (c3 := C3) (c4 := C4) (s1 := S1) (a1 := (A1.trans (pr h1))) (a2 := (A2.trans (pr h2))) (c5 := (any_cmp _ _)) (m1 := M1.trans (pr g1)) (m2 := M2.trans (pr g2)) (c6 := g3) (hc := hz)
  · by_cases hz : c = ⟨#[48]⟩
    · subst hz
      exact ord1cz (w := w) (hG := hG) (i1 := I1) (i2 := I2) (i3 := I3) (c1 := C1) (c2 := C2) (c3 := C3) (c4 := C4) (s1 := S1) (a1 := (A1.trans (pr h1))) (a2 := (A2.trans (pr h2))) (c5 := h3) (m1 := M1) (m2 := M2) (c6 := any_cmp _ _)
    · have hp : 0 < val c := Nat.pos_of_ne_zero fun h => hz ((zero_val c hc).2 h)
      rcases lims _ _ 1 ((cmp_mul (val a) (val b) (val c) hp).trans c1) with g1 | ⟨g1, g2⟩ | ⟨g1, g2, g3⟩
      · exact ord1ca (w := w) (hG := hG) (i1 := I1) (i2 := I2) (i3 := I3) (c1 := C1) (c2 := C2) (c3 := C3) (c4 := C4) (s1 := S1) (a1 := (A1.trans (pr h1))) (a2 := (A2.trans (pr h2))) (c5 := h3) (m1 := M1.trans (pr g1)) (m2 := M2) (c6 := any_cmp _ _) (hc := hz)
      · exact ord1cb (w := w) (hG := hG) (i1 := I1) (i2 := I2) (i3 := I3) (c1 := C1) (c2 := C2) (c3 := C3) (c4 := C4) (s1 := S1) (a1 := (A1.trans (pr h1))) (a2 := (A2.trans (pr h2))) (c5 := h3) (m1 := M1.trans (pr g1)) (m2 := M2.trans (pr g2)) (c6 := any_cmp _ _) (hc := hz)
      · exact ord1cc (w := w) (hG := hG) (i1 := I1) (i2 := I2) (i3 := I3) (c1 := C1) (c2 := C2) (c3 := C3) (c4 := C4) (s1 := S1) (a1 := (A1.trans (pr h1))) (a2 := (A2.trans (pr h2))) (c5 := h3) (m1 := M1.trans (pr g1)) (m2 := M2.trans (pr g2)) (c6 := g3) (hc := hz)
theorem ordAll2 (a b c : ByteArray) (w : World) (hG : GOK w) (ha : isN a) (hb : isN b) (hc : isN c) (c1 : cmpI (val a : Int) (val b : Int) = 0) (c2 : cmpI (val b : Int) (val a : Int) = 0) (c3 : cmpI (val b : Int) (val c : Int) = 1) :
    Calls Tryd.prog 6 #[.string a, .string b, .string c] w fun e w' => e = .returned (.bool true) ∧ Below w.heap.size w w' := by
  have C1 := cmp_f ha hb
  have C2 := cmp_f hb ha
  have C3 := cmp_f hb hc
  have C4 := cmp_f ha hc
  rw [c1] at C1
  rw [c2] at C2
  rw [c3] at C3
  obtain ⟨d, S1⟩ : ∃ d, natural_Sub.f a b = some (d, 0) := ⟨_, sub_f ha hb (by have := (cmpI_neg (val a : Int) (val b : Int)); rw [c1] at this; simp at this; omega)⟩
  have A1 := add_f ha hc
  have A2 := add_f hb hc
  have M1 := mul_f ha hc
  have M2 := mul_f hb hc
  have I1 := is_t ha
  have I2 := is_t hb
  have I3 := is_t hc
  rcases lims _ _ 0 ((cmp_add (val a) (val b) (val c)).trans c1) with h1 | ⟨h1, h2⟩ | ⟨h1, h2, h3⟩
  · by_cases hz : c = ⟨#[48]⟩
    · subst hz
      exact ord2az (w := w) (hG := hG) (i1 := I1) (i2 := I2) (i3 := I3) (c1 := C1) (c2 := C2) (c3 := C3) (c4 := C4) (s1 := S1) (a1 := (A1.trans (pr h1))) (a2 := A2) (c5 := (any_cmp _ _)) (m1 := M1) (m2 := M2) (c6 := any_cmp _ _)
    · have hp : 0 < val c := Nat.pos_of_ne_zero fun h => hz ((zero_val c hc).2 h)
      rcases lims _ _ 0 ((cmp_mul (val a) (val b) (val c) hp).trans c1) with g1 | ⟨g1, g2⟩ | ⟨g1, g2, g3⟩
      · exact ord2aa (w := w) (hG := hG) (i1 := I1) (i2 := I2) (i3 := I3) (c1 := C1) (c2 := C2) (c3 := C3) (c4 := C4) (s1 := S1) (a1 := (A1.trans (pr h1))) (a2 := A2) (c5 := (any_cmp _ _)) (m1 := M1.trans (pr g1)) (m2 := M2) (c6 := any_cmp _ _) (hc := hz)
      · exact ord2ab (w := w) (hG := hG) (i1 := I1) (i2 := I2) (i3 := I3) (c1 := C1) (c2 := C2) (c3 := C3) (c4 := C4) (s1 := S1) (a1 := (A1.trans (pr h1))) (a2 := A2) (c5 := (any_cmp _ _)) (m1 := M1.trans (pr g1)) (m2 := M2.trans (pr g2)) (c6 := any_cmp _ _) (hc := hz)
      · exact ord2ac (w := w) (hG := hG) (i1 := I1) (i2 := I2) (i3 := I3) (c1 := C1) (c2 := C2) (c3 := C3) (c4 := C4) (s1 := S1) (a1 := (A1.trans (pr h1))) (a2 := A2) (c5 := (any_cmp _ _)) (m1 := M1.trans (pr g1)) (m2 := M2.trans (pr g2)) (c6 := g3) (hc := hz)
  · by_cases hz : c = ⟨#[48]⟩
    · subst hz
      exact ord2bz (w := w) (hG := hG) (i1 := I1) (i2 := I2) (i3 := I3) (c1 := C1) (c2 := C2) (c3 := C3) (c4 := C4) (s1 := S1) (a1 := (A1.trans (pr h1))) (a2 := (A2.trans (pr h2))) (c5 := (any_cmp _ _)) (m1 := M1) (m2 := M2) (c6 := any_cmp _ _)
    · have hp : 0 < val c := Nat.pos_of_ne_zero fun h => hz ((zero_val c hc).2 h)
      rcases lims _ _ 0 ((cmp_mul (val a) (val b) (val c) hp).trans c1) with g1 | ⟨g1, g2⟩ | ⟨g1, g2, g3⟩
      · exact ord2ba (w := w) (hG := hG) (i1 := I1) (i2 := I2) (i3 := I3) (c1 := C1) (c2 := C2) (c3 := C3) (c4 := C4) (s1 := S1) (a1 := (A1.trans (pr h1))) (a2 := (A2.trans (pr h2))) (c5 := (any_cmp _ _)) (m1 := M1.trans (pr g1)) (m2 := M2) (c6 := any_cmp _ _) (hc := hz)
      · exact ord2bb (w := w) (hG := hG) (i1 := I1) (i2 := I2) (i3 := I3) (c1 := C1) (c2 := C2) (c3 := C3) (c4 := C4) (s1 := S1) (a1 := (A1.trans (pr h1))) (a2 := (A2.trans (pr h2))) (c5 := (any_cmp _ _)) (m1 := M1.trans (pr g1)) (m2 := M2.trans (pr g2)) (c6 := any_cmp _ _) (hc := hz)
      · exact ord2bc (w := w) (hG := hG) (i1 := I1) (i2 := I2) (i3 := I3) (c1 := C1) (c2 := C2) (c3 := C3) (c4 := C4) (s1 := S1) (a1 := (A1.trans (pr h1))) (a2 := (A2.trans (pr h2))) (c5 := (any_cmp _ _)) (m1 := M1.trans (pr g1)) (m2 := M2.trans (pr g2)) (c6 := g3) (hc := hz)
  · by_cases hz : c = ⟨#[48]⟩
    · subst hz
      exact ord2cz (w := w) (hG := hG) (i1 := I1) (i2 := I2) (i3 := I3) (c1 := C1) (c2 := C2) (c3 := C3) (c4 := C4) (s1 := S1) (a1 := (A1.trans (pr h1))) (a2 := (A2.trans (pr h2))) (c5 := h3) (m1 := M1) (m2 := M2) (c6 := any_cmp _ _)
    · have hp : 0 < val c := Nat.pos_of_ne_zero fun h => hz ((zero_val c hc).2 h)
      rcases lims _ _ 0 ((cmp_mul (val a) (val b) (val c) hp).trans c1) with g1 | ⟨g1, g2⟩ | ⟨g1, g2, g3⟩
      · exact ord2ca (w := w) (hG := hG) (i1 := I1) (i2 := I2) (i3 := I3) (c1 := C1) (c2 := C2) (c3 := C3) (c4 := C4) (s1 := S1) (a1 := (A1.trans (pr h1))) (a2 := (A2.trans (pr h2))) (c5 := h3) (m1 := M1.trans (pr g1)) (m2 := M2) (c6 := any_cmp _ _) (hc := hz)
      · exact ord2cb (w := w) (hG := hG) (i1 := I1) (i2 := I2) (i3 := I3) (c1 := C1) (c2 := C2) (c3 := C3) (c4 := C4) (s1 := S1) (a1 := (A1.trans (pr h1))) (a2 := (A2.trans (pr h2))) (c5 := h3) (m1 := M1.trans (pr g1)) (m2 := M2.trans (pr g2)) (c6 := any_cmp _ _) (hc := hz)
      · exact ord2cc (w := w) (hG := hG) (i1 := I1) (i2 := I2) (i3 := I3) (c1 := C1) (c2 := C2) (c3 := C3) (c4 := C4) (s1 := S1) (a1 := (A1.trans (pr h1))) (a2 := (A2.trans (pr h2))) (c5 := h3) (m1 := M1.trans (pr g1)) (m2 := M2.trans (pr g2)) (c6 := g3) (hc := hz)
theorem ordAll3 (a b c : ByteArray) (w : World) (hG : GOK w) (ha : isN a) (hb : isN b) (hc : isN c) (c1 : cmpI (val a : Int) (val b : Int) = 0) (c2 : cmpI (val b : Int) (val a : Int) = 0) (c3 : cmpI (val b : Int) (val c : Int) = (-1)) (c4 : cmpI (val a : Int) (val c : Int) = (-1)) :
    Calls Tryd.prog 6 #[.string a, .string b, .string c] w fun e w' => e = .returned (.bool true) ∧ Below w.heap.size w w' := by
  have C1 := cmp_f ha hb
  have C2 := cmp_f hb ha
  have C3 := cmp_f hb hc
  have C4 := cmp_f ha hc
  rw [c1] at C1
  rw [c2] at C2
  rw [c3] at C3
  rw [c4] at C4
  obtain ⟨d, S1⟩ : ∃ d, natural_Sub.f a b = some (d, 0) := ⟨_, sub_f ha hb (by have := (cmpI_neg (val a : Int) (val b : Int)); rw [c1] at this; simp at this; omega)⟩
  have A1 := add_f ha hc
  have A2 := add_f hb hc
  have M1 := mul_f ha hc
  have M2 := mul_f hb hc
  have I1 := is_t ha
  have I2 := is_t hb
  have I3 := is_t hc
  rcases lims _ _ 0 ((cmp_add (val a) (val b) (val c)).trans c1) with h1 | ⟨h1, h2⟩ | ⟨h1, h2, h3⟩
  · by_cases hz : c = ⟨#[48]⟩
    · subst hz
      exact ord3az (w := w) (hG := hG) (i1 := I1) (i2 := I2) (i3 := I3) (c1 := C1) (c2 := C2) (c3 := C3) (c4 := C4) (s1 := S1) (a1 := (A1.trans (pr h1))) (a2 := A2) (c5 := (any_cmp _ _)) (m1 := M1) (m2 := M2) (c6 := any_cmp _ _)
    · have hp : 0 < val c := Nat.pos_of_ne_zero fun h => hz ((zero_val c hc).2 h)
      rcases lims _ _ 0 ((cmp_mul (val a) (val b) (val c) hp).trans c1) with g1 | ⟨g1, g2⟩ | ⟨g1, g2, g3⟩
      · exact ord3aa (w := w) (hG := hG) (i1 := I1) (i2 := I2) (i3 := I3) (c1 := C1) (c2 := C2) (c3 := C3) (c4 := C4) (s1 := S1) (a1 := (A1.trans (pr h1))) (a2 := A2) (c5 := (any_cmp _ _)) (m1 := M1.trans (pr g1)) (m2 := M2) (c6 := any_cmp _ _) (hc := hz)
      · exact ord3ab (w := w) (hG := hG) (i1 := I1) (i2 := I2) (i3 := I3) (c1 := C1) (c2 := C2) (c3 := C3) (c4 := C4) (s1 := S1) (a1 := (A1.trans (pr h1))) (a2 := A2) (c5 := (any_cmp _ _)) (m1 := M1.trans (pr g1)) (m2 := M2.trans (pr g2)) (c6 := any_cmp _ _) (hc := hz)
      · exact ord3ac (w := w) (hG := hG) (i1 := I1) (i2 := I2) (i3 := I3) (c1 := C1) (c2 := C2) (c3 := C3) (c4 := C4) (s1 := S1) (a1 := (A1.trans (pr h1))) (a2 := A2) (c5 := (any_cmp _ _)) (m1 := M1.trans (pr g1)) (m2 := M2.trans (pr g2)) (c6 := g3) (hc := hz)
  · by_cases hz : c = ⟨#[48]⟩
    · subst hz
      exact ord3bz (w := w) (hG := hG) (i1 := I1) (i2 := I2) (i3 := I3) (c1 := C1) (c2 := C2) (c3 := C3) (c4 := C4) (s1 := S1) (a1 := (A1.trans (pr h1))) (a2 := (A2.trans (pr h2))) (c5 := (any_cmp _ _)) (m1 := M1) (m2 := M2) (c6 := any_cmp _ _)
    · have hp : 0 < val c := Nat.pos_of_ne_zero fun h => hz ((zero_val c hc).2 h)
      rcases lims _ _ 0 ((cmp_mul (val a) (val b) (val c) hp).trans c1) with g1 | ⟨g1, g2⟩ | ⟨g1, g2, g3⟩
      · exact ord3ba (w := w) (hG := hG) (i1 := I1) (i2 := I2) (i3 := I3) (c1 := C1) (c2 := C2) (c3 := C3) (c4 := C4) (s1 := S1) (a1 := (A1.trans (pr h1))) (a2 := (A2.trans (pr h2))) (c5 := (any_cmp _ _)) (m1 := M1.trans (pr g1)) (m2 := M2) (c6 := any_cmp _ _) (hc := hz)
      · exact ord3bb (w := w) (hG := hG) (i1 := I1) (i2 := I2) (i3 := I3) (c1 := C1) (c2 := C2) (c3 := C3) (c4 := C4) (s1 := S1) (a1 := (A1.trans (pr h1))) (a2 := (A2.trans (pr h2))) (c5 := (any_cmp _ _)) (m1 := M1.trans (pr g1)) (m2 := M2.trans (pr g2)) (c6 := any_cmp _ _) (hc := hz)
      · exact ord3bc (w := w) (hG := hG) (i1 := I1) (i2 := I2) (i3 := I3) (c1 := C1) (c2 := C2) (c3 := C3) (c4 := C4) (s1 := S1) (a1 := (A1.trans (pr h1))) (a2 := (A2.trans (pr h2))) (c5 := (any_cmp _ _)) (m1 := M1.trans (pr g1)) (m2 := M2.trans (pr g2)) (c6 := g3) (hc := hz)
  · by_cases hz : c = ⟨#[48]⟩
    · subst hz
      exact ord3cz (w := w) (hG := hG) (i1 := I1) (i2 := I2) (i3 := I3) (c1 := C1) (c2 := C2) (c3 := C3) (c4 := C4) (s1 := S1) (a1 := (A1.trans (pr h1))) (a2 := (A2.trans (pr h2))) (c5 := h3) (m1 := M1) (m2 := M2) (c6 := any_cmp _ _)
    · have hp : 0 < val c := Nat.pos_of_ne_zero fun h => hz ((zero_val c hc).2 h)
      rcases lims _ _ 0 ((cmp_mul (val a) (val b) (val c) hp).trans c1) with g1 | ⟨g1, g2⟩ | ⟨g1, g2, g3⟩
      · exact ord3ca (w := w) (hG := hG) (i1 := I1) (i2 := I2) (i3 := I3) (c1 := C1) (c2 := C2) (c3 := C3) (c4 := C4) (s1 := S1) (a1 := (A1.trans (pr h1))) (a2 := (A2.trans (pr h2))) (c5 := h3) (m1 := M1.trans (pr g1)) (m2 := M2) (c6 := any_cmp _ _) (hc := hz)
      · exact ord3cb (w := w) (hG := hG) (i1 := I1) (i2 := I2) (i3 := I3) (c1 := C1) (c2 := C2) (c3 := C3) (c4 := C4) (s1 := S1) (a1 := (A1.trans (pr h1))) (a2 := (A2.trans (pr h2))) (c5 := h3) (m1 := M1.trans (pr g1)) (m2 := M2.trans (pr g2)) (c6 := any_cmp _ _) (hc := hz)
      · exact ord3cc (w := w) (hG := hG) (i1 := I1) (i2 := I2) (i3 := I3) (c1 := C1) (c2 := C2) (c3 := C3) (c4 := C4) (s1 := S1) (a1 := (A1.trans (pr h1))) (a2 := (A2.trans (pr h2))) (c5 := h3) (m1 := M1.trans (pr g1)) (m2 := M2.trans (pr g2)) (c6 := g3) (hc := hz)
theorem ordAll4 (a b c : ByteArray) (w : World) (hG : GOK w) (ha : isN a) (hb : isN b) (hc : isN c) (c1 : cmpI (val a : Int) (val b : Int) = 0) (c2 : cmpI (val b : Int) (val a : Int) = 0) (c3 : cmpI (val b : Int) (val c : Int) = 0) (c4 : cmpI (val a : Int) (val c : Int) = 0) :
    Calls Tryd.prog 6 #[.string a, .string b, .string c] w fun e w' => e = .returned (.bool true) ∧ Below w.heap.size w w' := by
  have C1 := cmp_f ha hb
  have C2 := cmp_f hb ha
  have C3 := cmp_f hb hc
  have C4 := cmp_f ha hc
  rw [c1] at C1
  rw [c2] at C2
  rw [c3] at C3
  rw [c4] at C4
  obtain ⟨d, S1⟩ : ∃ d, natural_Sub.f a b = some (d, 0) := ⟨_, sub_f ha hb (by have := (cmpI_neg (val a : Int) (val b : Int)); rw [c1] at this; simp at this; omega)⟩
  have A1 := add_f ha hc
  have A2 := add_f hb hc
  have M1 := mul_f ha hc
  have M2 := mul_f hb hc
  have I1 := is_t ha
  have I2 := is_t hb
  have I3 := is_t hc
  rcases lims _ _ 0 ((cmp_add (val a) (val b) (val c)).trans c1) with h1 | ⟨h1, h2⟩ | ⟨h1, h2, h3⟩
  · by_cases hz : c = ⟨#[48]⟩
    · subst hz
      exact ord4az (w := w) (hG := hG) (i1 := I1) (i2 := I2) (i3 := I3) (c1 := C1) (c2 := C2) (c3 := C3) (c4 := C4) (s1 := S1) (a1 := (A1.trans (pr h1))) (a2 := A2) (c5 := (any_cmp _ _)) (m1 := M1) (m2 := M2) (c6 := any_cmp _ _)
    · have hp : 0 < val c := Nat.pos_of_ne_zero fun h => hz ((zero_val c hc).2 h)
      rcases lims _ _ 0 ((cmp_mul (val a) (val b) (val c) hp).trans c1) with g1 | ⟨g1, g2⟩ | ⟨g1, g2, g3⟩
      · exact ord4aa (w := w) (hG := hG) (i1 := I1) (i2 := I2) (i3 := I3) (c1 := C1) (c2 := C2) (c3 := C3) (c4 := C4) (s1 := S1) (a1 := (A1.trans (pr h1))) (a2 := A2) (c5 := (any_cmp _ _)) (m1 := M1.trans (pr g1)) (m2 := M2) (c6 := any_cmp _ _) (hc := hz)
      · exact ord4ab (w := w) (hG := hG) (i1 := I1) (i2 := I2) (i3 := I3) (c1 := C1) (c2 := C2) (c3 := C3) (c4 := C4) (s1 := S1) (a1 := (A1.trans (pr h1))) (a2 := A2) (c5 := (any_cmp _ _)) (m1 := M1.trans (pr g1)) (m2 := M2.trans (pr g2)) (c6 := any_cmp _ _) (hc := hz)
      · exact ord4ac (w := w) (hG := hG) (i1 := I1) (i2 := I2) (i3 := I3) (c1 := C1) (c2 := C2) (c3 := C3) (c4 := C4) (s1 := S1) (a1 := (A1.trans (pr h1))) (a2 := A2) (c5 := (any_cmp _ _)) (m1 := M1.trans (pr g1)) (m2 := M2.trans (pr g2)) (c6 := g3) (hc := hz)
  · by_cases hz : c = ⟨#[48]⟩
    · subst hz
      exact ord4bz (w := w) (hG := hG) (i1 := I1) (i2 := I2) (i3 := I3) (c1 := C1) (c2 := C2) (c3 := C3) (c4 := C4) (s1 := S1) (a1 := (A1.trans (pr h1))) (a2 := (A2.trans (pr h2))) (c5 := (any_cmp _ _)) (m1 := M1) (m2 := M2) (c6 := any_cmp _ _)
    · have hp : 0 < val c := Nat.pos_of_ne_zero fun h => hz ((zero_val c hc).2 h)
      rcases lims _ _ 0 ((cmp_mul (val a) (val b) (val c) hp).trans c1) with g1 | ⟨g1, g2⟩ | ⟨g1, g2, g3⟩
      · exact ord4ba (w := w) (hG := hG) (i1 := I1) (i2 := I2) (i3 := I3) (c1 := C1) (c2 := C2) (c3 := C3) (c4 := C4) (s1 := S1) (a1 := (A1.trans (pr h1))) (a2 := (A2.trans (pr h2))) (c5 := (any_cmp _ _)) (m1 := M1.trans (pr g1)) (m2 := M2) (c6 := any_cmp _ _) (hc := hz)
      · exact ord4bb (w := w) (hG := hG) (i1 := I1) (i2 := I2) (i3 := I3) (c1 := C1) (c2 := C2) (c3 := C3) (c4 := C4) (s1 := S1) (a1 := (A1.trans (pr h1))) (a2 := (A2.trans (pr h2))) (c5 := (any_cmp _ _)) (m1 := M1.trans (pr g1)) (m2 := M2.trans (pr g2)) (c6 := any_cmp _ _) (hc := hz)
      · exact ord4bc (w := w) (hG := hG) (i1 := I1) (i2 := I2) (i3 := I3) (c1 := C1) (c2 := C2) (c3 := C3) (c4 := C4) (s1 := S1) (a1 := (A1.trans (pr h1))) (a2 := (A2.trans (pr h2))) (c5 := (any_cmp _ _)) (m1 := M1.trans (pr g1)) (m2 := M2.trans (pr g2)) (c6 := g3) (hc := hz)
  · by_cases hz : c = ⟨#[48]⟩
    · subst hz
      exact ord4cz (w := w) (hG := hG) (i1 := I1) (i2 := I2) (i3 := I3) (c1 := C1) (c2 := C2) (c3 := C3) (c4 := C4) (s1 := S1) (a1 := (A1.trans (pr h1))) (a2 := (A2.trans (pr h2))) (c5 := h3) (m1 := M1) (m2 := M2) (c6 := any_cmp _ _)
    · have hp : 0 < val c := Nat.pos_of_ne_zero fun h => hz ((zero_val c hc).2 h)
      rcases lims _ _ 0 ((cmp_mul (val a) (val b) (val c) hp).trans c1) with g1 | ⟨g1, g2⟩ | ⟨g1, g2, g3⟩
      · exact ord4ca (w := w) (hG := hG) (i1 := I1) (i2 := I2) (i3 := I3) (c1 := C1) (c2 := C2) (c3 := C3) (c4 := C4) (s1 := S1) (a1 := (A1.trans (pr h1))) (a2 := (A2.trans (pr h2))) (c5 := h3) (m1 := M1.trans (pr g1)) (m2 := M2) (c6 := any_cmp _ _) (hc := hz)
      · exact ord4cb (w := w) (hG := hG) (i1 := I1) (i2 := I2) (i3 := I3) (c1 := C1) (c2 := C2) (c3 := C3) (c4 := C4) (s1 := S1) (a1 := (A1.trans (pr h1))) (a2 := (A2.trans (pr h2))) (c5 := h3) (m1 := M1.trans (pr g1)) (m2 := M2.trans (pr g2)) (c6 := any_cmp _ _) (hc := hz)
      · exact ord4cc (w := w) (hG := hG) (i1 := I1) (i2 := I2) (i3 := I3) (c1 := C1) (c2 := C2) (c3 := C3) (c4 := C4) (s1 := S1) (a1 := (A1.trans (pr h1))) (a2 := (A2.trans (pr h2))) (c5 := h3) (m1 := M1.trans (pr g1)) (m2 := M2.trans (pr g2)) (c6 := g3) (hc := hz)
theorem ordAll5 (a b c : ByteArray) (w : World) (hG : GOK w) (ha : isN a) (hb : isN b) (hc : isN c) (c1 : cmpI (val a : Int) (val b : Int) = (-1)) (c2 : cmpI (val b : Int) (val a : Int) = 1) (c3 : cmpI (val b : Int) (val c : Int) = 1) :
    Calls Tryd.prog 6 #[.string a, .string b, .string c] w fun e w' => e = .returned (.bool true) ∧ Below w.heap.size w w' := by
  have C1 := cmp_f ha hb
  have C2 := cmp_f hb ha
  have C3 := cmp_f hb hc
  have C4 := cmp_f ha hc
  rw [c1] at C1
  rw [c2] at C2
  rw [c3] at C3
  obtain ⟨d, S1⟩ : ∃ d, natural_Sub.f a b = some (d, 10) := ⟨_, sub_r ha hb (by have := (cmpI_neg (val a : Int) (val b : Int)); rw [c1] at this; simp at this; omega)⟩
  have A1 := add_f ha hc
  have A2 := add_f hb hc
  have M1 := mul_f ha hc
  have M2 := mul_f hb hc
  have I1 := is_t ha
  have I2 := is_t hb
  have I3 := is_t hc
  rcases lims _ _ (-1) ((cmp_add (val a) (val b) (val c)).trans c1) with h1 | ⟨h1, h2⟩ | ⟨h1, h2, h3⟩
  · by_cases hz : c = ⟨#[48]⟩
    · subst hz
      exact ord5az (w := w) (hG := hG) (i1 := I1) (i2 := I2) (i3 := I3) (c1 := C1) (c2 := C2) (c3 := C3) (c4 := C4) (s1 := S1) (a1 := (A1.trans (pr h1))) (a2 := A2) (c5 := (any_cmp _ _)) (m1 := M1) (m2 := M2) (c6 := any_cmp _ _)
    · have hp : 0 < val c := Nat.pos_of_ne_zero fun h => hz ((zero_val c hc).2 h)
      rcases lims _ _ (-1) ((cmp_mul (val a) (val b) (val c) hp).trans c1) with g1 | ⟨g1, g2⟩ | ⟨g1, g2, g3⟩
      · exact ord5aa (w := w) (hG := hG) (i1 := I1) (i2 := I2) (i3 := I3) (c1 := C1) (c2 := C2) (c3 := C3) (c4 := C4) (s1 := S1) (a1 := (A1.trans (pr h1))) (a2 := A2) (c5 := (any_cmp _ _)) (m1 := M1.trans (pr g1)) (m2 := M2) (c6 := any_cmp _ _) (hc := hz)
      · exact ord5ab (w := w) (hG := hG) (i1 := I1) (i2 := I2) (i3 := I3) (c1 := C1) (c2 := C2) (c3 := C3) (c4 := C4) (s1 := S1) (a1 := (A1.trans (pr h1))) (a2 := A2) (c5 := (any_cmp _ _)) (m1 := M1.trans (pr g1)) (m2 := M2.trans (pr g2)) (c6 := any_cmp _ _) (hc := hz)
      · exact ord5ac (w := w) (hG := hG) (i1 := I1) (i2 := I2) (i3 := I3) (c1 := C1) (c2 := C2) (c3 := C3) (c4 := C4) (s1 := S1) (a1 := (A1.trans (pr h1))) (a2 := A2) (c5 := (any_cmp _ _)) (m1 := M1.trans (pr g1)) (m2 := M2.trans (pr g2)) (c6 := g3) (hc := hz)
  · by_cases hz : c = ⟨#[48]⟩
    · subst hz
      exact ord5bz (w := w) (hG := hG) (i1 := I1) (i2 := I2) (i3 := I3) (c1 := C1) (c2 := C2) (c3 := C3) (c4 := C4) (s1 := S1) (a1 := (A1.trans (pr h1))) (a2 := (A2.trans (pr h2))) (c5 := (any_cmp _ _)) (m1 := M1) (m2 := M2) (c6 := any_cmp _ _)
    · have hp : 0 < val c := Nat.pos_of_ne_zero fun h => hz ((zero_val c hc).2 h)
      rcases lims _ _ (-1) ((cmp_mul (val a) (val b) (val c) hp).trans c1) with g1 | ⟨g1, g2⟩ | ⟨g1, g2, g3⟩
      · exact ord5ba (w := w) (hG := hG) (i1 := I1) (i2 := I2) (i3 := I3) (c1 := C1) (c2 := C2) (c3 := C3) (c4 := C4) (s1 := S1) (a1 := (A1.trans (pr h1))) (a2 := (A2.trans (pr h2))) (c5 := (any_cmp _ _)) (m1 := M1.trans (pr g1)) (m2 := M2) (c6 := any_cmp _ _) (hc := hz)
      · exact ord5bb (w := w) (hG := hG) (i1 := I1) (i2 := I2) (i3 := I3) (c1 := C1) (c2 := C2) (c3 := C3) (c4 := C4) (s1 := S1) (a1 := (A1.trans (pr h1))) (a2 := (A2.trans (pr h2))) (c5 := (any_cmp _ _)) (m1 := M1.trans (pr g1)) (m2 := M2.trans (pr g2)) (c6 := any_cmp _ _) (hc := hz)
      · exact ord5bc (w := w) (hG := hG) (i1 := I1) (i2 := I2) (i3 := I3) (c1 := C1) (c2 := C2) (c3 := C3) (c4 := C4) (s1 := S1) (a1 := (A1.trans (pr h1))) (a2 := (A2.trans (pr h2))) (c5 := (any_cmp _ _)) (m1 := M1.trans (pr g1)) (m2 := M2.trans (pr g2)) (c6 := g3) (hc := hz)
  · by_cases hz : c = ⟨#[48]⟩
    · subst hz
      exact ord5cz (w := w) (hG := hG) (i1 := I1) (i2 := I2) (i3 := I3) (c1 := C1) (c2 := C2) (c3 := C3) (c4 := C4) (s1 := S1) (a1 := (A1.trans (pr h1))) (a2 := (A2.trans (pr h2))) (c5 := h3) (m1 := M1) (m2 := M2) (c6 := any_cmp _ _)
    · have hp : 0 < val c := Nat.pos_of_ne_zero fun h => hz ((zero_val c hc).2 h)
      rcases lims _ _ (-1) ((cmp_mul (val a) (val b) (val c) hp).trans c1) with g1 | ⟨g1, g2⟩ | ⟨g1, g2, g3⟩
      · exact ord5ca (w := w) (hG := hG) (i1 := I1) (i2 := I2) (i3 := I3) (c1 := C1) (c2 := C2) (c3 := C3) (c4 := C4) (s1 := S1) (a1 := (A1.trans (pr h1))) (a2 := (A2.trans (pr h2))) (c5 := h3) (m1 := M1.trans (pr g1)) (m2 := M2) (c6 := any_cmp _ _) (hc := hz)
      · exact ord5cb (w := w) (hG := hG) (i1 := I1) (i2 := I2) (i3 := I3) (c1 := C1) (c2 := C2) (c3 := C3) (c4 := C4) (s1 := S1) (a1 := (A1.trans (pr h1))) (a2 := (A2.trans (pr h2))) (c5 := h3) (m1 := M1.trans (pr g1)) (m2 := M2.trans (pr g2)) (c6 := any_cmp _ _) (hc := hz)
      · exact ord5cc (w := w) (hG := hG) (i1 := I1) (i2 := I2) (i3 := I3) (c1 := C1) (c2 := C2) (c3 := C3) (c4 := C4) (s1 := S1) (a1 := (A1.trans (pr h1))) (a2 := (A2.trans (pr h2))) (c5 := h3) (m1 := M1.trans (pr g1)) (m2 := M2.trans (pr g2)) (c6 := g3) (hc := hz)
theorem ordAll6 (a b c : ByteArray) (w : World) (hG : GOK w) (ha : isN a) (hb : isN b) (hc : isN c) (c1 : cmpI (val a : Int) (val b : Int) = (-1)) (c2 : cmpI (val b : Int) (val a : Int) = 1) (c3 : cmpI (val b : Int) (val c : Int) = 0) (c4 : cmpI (val a : Int) (val c : Int) = (-1)) :
    Calls Tryd.prog 6 #[.string a, .string b, .string c] w fun e w' => e = .returned (.bool true) ∧ Below w.heap.size w w' := by
  have C1 := cmp_f ha hb
  have C2 := cmp_f hb ha
  have C3 := cmp_f hb hc
  have C4 := cmp_f ha hc
  rw [c1] at C1
  rw [c2] at C2
  rw [c3] at C3
  rw [c4] at C4
  obtain ⟨d, S1⟩ : ∃ d, natural_Sub.f a b = some (d, 10) := ⟨_, sub_r ha hb (by have := (cmpI_neg (val a : Int) (val b : Int)); rw [c1] at this; simp at this; omega)⟩
  have A1 := add_f ha hc
  have A2 := add_f hb hc
  have M1 := mul_f ha hc
  have M2 := mul_f hb hc
  have I1 := is_t ha
  have I2 := is_t hb
  have I3 := is_t hc
  rcases lims _ _ (-1) ((cmp_add (val a) (val b) (val c)).trans c1) with h1 | ⟨h1, h2⟩ | ⟨h1, h2, h3⟩
  · by_cases hz : c = ⟨#[48]⟩
    · subst hz
      exact ord6az (w := w) (hG := hG) (i1 := I1) (i2 := I2) (i3 := I3) (c1 := C1) (c2 := C2) (c3 := C3) (c4 := C4) (s1 := S1) (a1 := (A1.trans (pr h1))) (a2 := A2) (c5 := (any_cmp _ _)) (m1 := M1) (m2 := M2) (c6 := any_cmp _ _)
    · have hp : 0 < val c := Nat.pos_of_ne_zero fun h => hz ((zero_val c hc).2 h)
      rcases lims _ _ (-1) ((cmp_mul (val a) (val b) (val c) hp).trans c1) with g1 | ⟨g1, g2⟩ | ⟨g1, g2, g3⟩
      · exact ord6aa (w := w) (hG := hG) (i1 := I1) (i2 := I2) (i3 := I3) (c1 := C1) (c2 := C2) (c3 := C3) (c4 := C4) (s1 := S1) (a1 := (A1.trans (pr h1))) (a2 := A2) (c5 := (any_cmp _ _)) (m1 := M1.trans (pr g1)) (m2 := M2) (c6 := any_cmp _ _) (hc := hz)
      · exact ord6ab (w := w) (hG := hG) (i1 := I1) (i2 := I2) (i3 := I3) (c1 := C1) (c2 := C2) (c3 := C3) (c4 := C4) (s1 := S1) (a1 := (A1.trans (pr h1))) (a2 := A2) (c5 := (any_cmp _ _)) (m1 := M1.trans (pr g1)) (m2 := M2.trans (pr g2)) (c6 := any_cmp _ _) (hc := hz)
      · exact ord6ac (w := w) (hG := hG) (i1 := I1) (i2 := I2) (i3 := I3) (c1 := C1) (c2 := C2) (c3 := C3) (c4 := C4) (s1 := S1) (a1 := (A1.trans (pr h1))) (a2 := A2) (c5 := (any_cmp _ _)) (m1 := M1.trans (pr g1)) (m2 := M2.trans (pr g2)) (c6 := g3) (hc := hz)
  · by_cases hz : c = ⟨#[48]⟩
    · subst hz
      exact ord6bz (w := w) (hG := hG) (i1 := I1) (i2 := I2) (i3 := I3) (c1 := C1) (c2 := C2) (c3 := C3) (c4 := C4) (s1 := S1) (a1 := (A1.trans (pr h1))) (a2 := (A2.trans (pr h2))) (c5 := (any_cmp _ _)) (m1 := M1) (m2 := M2) (c6 := any_cmp _ _)
    · have hp : 0 < val c := Nat.pos_of_ne_zero fun h => hz ((zero_val c hc).2 h)
      rcases lims _ _ (-1) ((cmp_mul (val a) (val b) (val c) hp).trans c1) with g1 | ⟨g1, g2⟩ | ⟨g1, g2, g3⟩
      · exact ord6ba (w := w) (hG := hG) (i1 := I1) (i2 := I2) (i3 := I3) (c1 := C1) (c2 := C2) (c3 := C3) (c4 := C4) (s1 := S1) (a1 := (A1.trans (pr h1))) (a2 := (A2.trans (pr h2))) (c5 := (any_cmp _ _)) (m1 := M1.trans (pr g1)) (m2 := M2) (c6 := any_cmp _ _) (hc := hz)
      · exact ord6bb (w := w) (hG := hG) (i1 := I1) (i2 := I2) (i3 := I3) (c1 := C1) (c2 := C2) (c3 := C3) (c4 := C4) (s1 := S1) (a1 := (A1.trans (pr h1))) (a2 := (A2.trans (pr h2))) (c5 := (any_cmp _ _)) (m1 := M1.trans (pr g1)) (m2 := M2.trans (pr g2)) (c6 := any_cmp _ _) (hc := hz)
      · exact ord6bc (w := w) (hG := hG) (i1 := I1) (i2 := I2) (i3 := I3) (c1 := C1) (c2 := C2) (c3 := C3) (c4 := C4) (s1 := S1) (a1 := (A1.trans (pr h1))) (a2 := (A2.trans (pr h2))) (c5 := (any_cmp _ _)) (m1 := M1.trans (pr g1)) (m2 := M2.trans (pr g2)) (c6 := g3) (hc := hz)
  · by_cases hz : c = ⟨#[48]⟩
    · subst hz
      exact ord6cz (w := w) (hG := hG) (i1 := I1) (i2 := I2) (i3 := I3) (c1 := C1) (c2 := C2) (c3 := C3) (c4 := C4) (s1 := S1) (a1 := (A1.trans (pr h1))) (a2 := (A2.trans (pr h2))) (c5 := h3) (m1 := M1) (m2 := M2) (c6 := any_cmp _ _)
    · have hp : 0 < val c := Nat.pos_of_ne_zero fun h => hz ((zero_val c hc).2 h)
      rcases lims _ _ (-1) ((cmp_mul (val a) (val b) (val c) hp).trans c1) with g1 | ⟨g1, g2⟩ | ⟨g1, g2, g3⟩
      · exact ord6ca (w := w) (hG := hG) (i1 := I1) (i2 := I2) (i3 := I3) (c1 := C1) (c2 := C2) (c3 := C3) (c4 := C4) (s1 := S1) (a1 := (A1.trans (pr h1))) (a2 := (A2.trans (pr h2))) (c5 := h3) (m1 := M1.trans (pr g1)) (m2 := M2) (c6 := any_cmp _ _) (hc := hz)
      · exact ord6cb (w := w) (hG := hG) (i1 := I1) (i2 := I2) (i3 := I3) (c1 := C1) (c2 := C2) (c3 := C3) (c4 := C4) (s1 := S1) (a1 := (A1.trans (pr h1))) (a2 := (A2.trans (pr h2))) (c5 := h3) (m1 := M1.trans (pr g1)) (m2 := M2.trans (pr g2)) (c6 := any_cmp _ _) (hc := hz)
      · exact ord6cc (w := w) (hG := hG) (i1 := I1) (i2 := I2) (i3 := I3) (c1 := C1) (c2 := C2) (c3 := C3) (c4 := C4) (s1 := S1) (a1 := (A1.trans (pr h1))) (a2 := (A2.trans (pr h2))) (c5 := h3) (m1 := M1.trans (pr g1)) (m2 := M2.trans (pr g2)) (c6 := g3) (hc := hz)
theorem ordAll7 (a b c : ByteArray) (w : World) (hG : GOK w) (ha : isN a) (hb : isN b) (hc : isN c) (c1 : cmpI (val a : Int) (val b : Int) = (-1)) (c2 : cmpI (val b : Int) (val a : Int) = 1) (c3 : cmpI (val b : Int) (val c : Int) = (-1)) (c4 : cmpI (val a : Int) (val c : Int) = (-1)) :
    Calls Tryd.prog 6 #[.string a, .string b, .string c] w fun e w' => e = .returned (.bool true) ∧ Below w.heap.size w w' := by
  have C1 := cmp_f ha hb
  have C2 := cmp_f hb ha
  have C3 := cmp_f hb hc
  have C4 := cmp_f ha hc
  rw [c1] at C1
  rw [c2] at C2
  rw [c3] at C3
  rw [c4] at C4
  obtain ⟨d, S1⟩ : ∃ d, natural_Sub.f a b = some (d, 10) := ⟨_, sub_r ha hb (by have := (cmpI_neg (val a : Int) (val b : Int)); rw [c1] at this; simp at this; omega)⟩
  have A1 := add_f ha hc
  have A2 := add_f hb hc
  have M1 := mul_f ha hc
  have M2 := mul_f hb hc
  have I1 := is_t ha
  have I2 := is_t hb
  have I3 := is_t hc
  rcases lims _ _ (-1) ((cmp_add (val a) (val b) (val c)).trans c1) with h1 | ⟨h1, h2⟩ | ⟨h1, h2, h3⟩
  · by_cases hz : c = ⟨#[48]⟩
    · subst hz
      exact ord7az (w := w) (hG := hG) (i1 := I1) (i2 := I2) (i3 := I3) (c1 := C1) (c2 := C2) (c3 := C3) (c4 := C4) (s1 := S1) (a1 := (A1.trans (pr h1))) (a2 := A2) (c5 := (any_cmp _ _)) (m1 := M1) (m2 := M2) (c6 := any_cmp _ _)
    · have hp : 0 < val c := Nat.pos_of_ne_zero fun h => hz ((zero_val c hc).2 h)
      rcases lims _ _ (-1) ((cmp_mul (val a) (val b) (val c) hp).trans c1) with g1 | ⟨g1, g2⟩ | ⟨g1, g2, g3⟩
      · exact ord7aa (w := w) (hG := hG) (i1 := I1) (i2 := I2) (i3 := I3) (c1 := C1) (c2 := C2) (c3 := C3) (c4 := C4) (s1 := S1) (a1 := (A1.trans (pr h1))) (a2 := A2) (c5 := (any_cmp _ _)) (m1 := M1.trans (pr g1)) (m2 := M2) (c6 := any_cmp _ _) (hc := hz)
      · exact ord7ab (w := w) (hG := hG) (i1 := I1) (i2 := I2) (i3 := I3) (c1 := C1) (c2 := C2) (c3 := C3) (c4 := C4) (s1 := S1) (a1 := (A1.trans (pr h1))) (a2 := A2) (c5 := (any_cmp _ _)) (m1 := M1.trans (pr g1)) (m2 := M2.trans (pr g2)) (c6 := any_cmp _ _) (hc := hz)
      · exact ord7ac (w := w) (hG := hG) (i1 := I1) (i2 := I2) (i3 := I3) (c1 := C1) (c2 := C2) (c3 := C3) (c4 := C4) (s1 := S1) (a1 := (A1.trans (pr h1))) (a2 := A2) (c5 := (any_cmp _ _)) (m1 := M1.trans (pr g1)) (m2 := M2.trans (pr g2)) (c6 := g3) (hc := hz)
  · by_cases hz : c = ⟨#[48]⟩
    · subst hz
      exact ord7bz (w := w) (hG := hG) (i1 := I1) (i2 := I2) (i3 := I3) (c1 := C1) (c2 := C2) (c3 := C3) (c4 := C4) (s1 := S1) (a1 := (A1.trans (pr h1))) (a2 := (A2.trans (pr h2))) (c5 := (any_cmp _ _)) (m1 := M1) (m2 := M2) (c6 := any_cmp _ _)
    · have hp : 0 < val c := Nat.pos_of_ne_zero fun h => hz ((zero_val c hc).2 h)
      rcases lims _ _ (-1) ((cmp_mul (val a) (val b) (val c) hp).trans c1) with g1 | ⟨g1, g2⟩ | ⟨g1, g2, g3⟩
      · exact ord7ba (w := w) (hG := hG) (i1 := I1) (i2 := I2) (i3 := I3) (c1 := C1) (c2 := C2) (c3 := C3) (c4 := C4) (s1 := S1) (a1 := (A1.trans (pr h1))) (a2 := (A2.trans (pr h2))) (c5 := (any_cmp _ _)) (m1 := M1.trans (pr g1)) (m2 := M2) (c6 := any_cmp _ _) (hc := hz)
      · exact ord7bb (w := w) (hG := hG) (i1 := I1) (i2 := I2) (i3 := I3) (c1 := C1) (c2 := C2) (c3 := C3) (c4 := C4) (s1 := S1) (a1 := (A1.trans (pr h1))) (a2 := (A2.trans (pr h2))) (c5 := (any_cmp _ _)) (m1 := M1.trans (pr g1)) (m2 := M2.trans (pr g2)) (c6 := any_cmp _ _) (hc := hz)
      · exact ord7bc (w := w) (hG := hG) (i1 := I1) (i2 := I2) (i3 := I3) (c1 := C1) (c2 := C2) (c3 := C3) (c4 := C4) (s1 := S1) (a1 := (A1.trans (pr h1))) (a2 := (A2.trans (pr h2))) (c5 := (any_cmp _ _)) (m1 := M1.trans (pr g1)) (m2 := M2.trans (pr g2)) (c6 := g3) (hc := hz)
  · by_cases hz : c = ⟨#[48]⟩
    · subst hz
      exact ord7cz (w := w) (hG := hG) (i1 := I1) (i2 := I2) (i3 := I3) (c1 := C1) (c2 := C2) (c3 := C3) (c4 := C4) (s1 := S1) (a1 := (A1.trans (pr h1))) (a2 := (A2.trans (pr h2))) (c5 := h3) (m1 := M1) (m2 := M2) (c6 := any_cmp _ _)
    · have hp : 0 < val c := Nat.pos_of_ne_zero fun h => hz ((zero_val c hc).2 h)
      rcases lims _ _ (-1) ((cmp_mul (val a) (val b) (val c) hp).trans c1) with g1 | ⟨g1, g2⟩ | ⟨g1, g2, g3⟩
      · exact ord7ca (w := w) (hG := hG) (i1 := I1) (i2 := I2) (i3 := I3) (c1 := C1) (c2 := C2) (c3 := C3) (c4 := C4) (s1 := S1) (a1 := (A1.trans (pr h1))) (a2 := (A2.trans (pr h2))) (c5 := h3) (m1 := M1.trans (pr g1)) (m2 := M2) (c6 := any_cmp _ _) (hc := hz)
      · exact ord7cb (w := w) (hG := hG) (i1 := I1) (i2 := I2) (i3 := I3) (c1 := C1) (c2 := C2) (c3 := C3) (c4 := C4) (s1 := S1) (a1 := (A1.trans (pr h1))) (a2 := (A2.trans (pr h2))) (c5 := h3) (m1 := M1.trans (pr g1)) (m2 := M2.trans (pr g2)) (c6 := any_cmp _ _) (hc := hz)
      · exact ord7cc (w := w) (hG := hG) (i1 := I1) (i2 := I2) (i3 := I3) (c1 := C1) (c2 := C2) (c3 := C3) (c4 := C4) (s1 := S1) (a1 := (A1.trans (pr h1))) (a2 := (A2.trans (pr h2))) (c5 := h3) (m1 := M1.trans (pr g1)) (m2 := M2.trans (pr g2)) (c6 := g3) (hc := hz)
theorem naturalOrder_calls (a b c : ByteArray) (w : World) (hG : GOK w) :
    Calls Tryd.prog 6 #[.string a, .string b, .string c] w fun e w' => e = .returned (.bool true) ∧ Below w.heap.size w w' := by
  by_cases ha : isN a
  · by_cases hb : isN b
    · by_cases hc : isN c
      · rcases Nat.lt_trichotomy (val a) (val b) with h | h | h
        · have e1 := cmpI_l (show (val a : Int) < val b by omega)
          have e2 := cmpI_g (show (val a : Int) < val b by omega)
          rcases Nat.lt_trichotomy (val b) (val c) with g | g | g
          · exact ordAll7 a b c w hG ha hb hc e1 e2 (cmpI_l (by omega)) (cmpI_l (by omega))
          · exact ordAll6 a b c w hG ha hb hc e1 e2 (by rw [g, cmpI_e]) (cmpI_l (by omega))
          · exact ordAll5 a b c w hG ha hb hc e1 e2 (cmpI_g (by omega))
        · have e1 : cmpI (val a : Int) (val b : Int) = 0 := by rw [h, cmpI_e]
          have e2 : cmpI (val b : Int) (val a : Int) = 0 := by rw [h, cmpI_e]
          rcases Nat.lt_trichotomy (val b) (val c) with g | g | g
          · exact ordAll3 a b c w hG ha hb hc e1 e2 (cmpI_l (by omega)) (cmpI_l (by omega))
          · exact ordAll4 a b c w hG ha hb hc e1 e2 (by rw [g, cmpI_e]) (by rw [h, g, cmpI_e])
          · exact ordAll2 a b c w hG ha hb hc e1 e2 (cmpI_g (by omega))
        · exact ordAll1 a b c w hG ha hb hc (cmpI_g (by omega)) (cmpI_l (by omega))
      · exact ordNo3 a b c w hG (is_t ha) (is_t hb) (is_n hc)
    · exact ordNo2 a b c w hG (is_t ha) (is_n hb)
  · exact ordNo1 a b c w hG (is_n ha)
end Go.Proofs.YtdojfnjgipeogaaDoor
