/- NaturalOrder, walked by hand: one theorem for each case. -/
import Derived.Test.YtdojfnjgipeogaaDoorLax1
import Derived.Test.YtdojfnjgipeogaaDoorNatZ
namespace Go.Proofs.YtdojfnjgipeogaaDoor
open Go.RowKit Go.Shelf Go.Proofs.YtdojfnjgipeogaaDoorW.PrintWords Go.Proofs.YtdojfnjgipeogaaDoorW.PrintMore NatB La
set_option linter.unusedSimpArgs false
set_option linter.unusedVariables false
set_option maxHeartbeats 4000000
set_option maxRecDepth 1000000
theorem head_pureB (k : Nat) : customhouselaw04_head.f (k + 1) = some true := by
  unfold customhouselaw04_head.f
  simp only [h1, h2, h3, h4, h5, h6, h7, Option.bind_some, Lib.toList_data]
  simp [customhouselaw04_head.j0, h8, h9, h10, h11, h12, Lib.toList_data]
theorem headCB (w : World) (hG : GOK w) : Calls Tryd.prog 11 #[] w fun e w' => e = .returned (.bool true) ∧ Below w.heap.size w w' := La.customhouselaw04_head.calls 1 true w (head_pureB 0) hG
theorem ord3az (a b d p q r s : ByteArray) (f2 n g2 h2 m k l : Int) (w : World) (hG : GOK w)
    (i1 : natural_Is.f a = some true) (i2 : natural_Is.f b = some true) (i3 : natural_Is.f ⟨#[48]⟩ = some true) (c1 : natural_Compare.f a b = some (0, 0)) (c2 : natural_Compare.f b a = some (0, 0)) (c3 : natural_Compare.f b ⟨#[48]⟩ = some ((-1), 0)) (c4 : natural_Compare.f a ⟨#[48]⟩ = some ((-1), 0)) (s1 : natural_Sub.f a b = some (d, 0)) (a1 : natural_Add.f a ⟨#[48]⟩ = some (p, 2)) (a2 : natural_Add.f b ⟨#[48]⟩ = some (q, f2)) (c5 : natural_Compare.f p q = some (n, k)) (m1 : natural_Mul.f a ⟨#[48]⟩ = some (r, g2)) (m2 : natural_Mul.f b ⟨#[48]⟩ = some (s, h2)) (c6 : natural_Compare.f r s = some (m, l)) :
    Calls Tryd.prog 6 #[.string a, .string b, .string ⟨#[48]⟩] w fun e w' => e = .returned (.bool true) ∧ Below w.heap.size w w' := by
  go_enter Tryd.func6, Tryd.ntmps6
  go_wp2_with (first
    | (go_at_call 11; refine (headCB _ hG).mono ?_; rintro e w1 ⟨rfl, hb1⟩; have hbw := hb1)
    | (go_at_call_of 14 (#[Value.string a]); refine (natural_Is.calls _ _ _ i1).mono ?_; rintro e v ⟨rfl, h⟩; have hbw := bthen hbw h)
    | (go_at_call_of 14 (#[Value.string b]); refine (natural_Is.calls _ _ _ i2).mono ?_; rintro e v ⟨rfl, h⟩; have hbw := bthen hbw h)
    | (go_at_call_of 14 (#[Value.string ⟨#[48]⟩]); refine (natural_Is.calls _ _ _ i3).mono ?_; rintro e v ⟨rfl, h⟩; have hbw := bthen hbw h)
    | (go_at_call_of 15 (#[Value.string a, Value.string b]); refine (natural_Compare.calls _ _ _ _ _ c1).mono ?_; rintro e v ⟨rfl, h⟩; have hbw := bthen hbw h)
    | (go_at_call_of 15 (#[Value.string b, Value.string a]); refine (natural_Compare.calls _ _ _ _ _ c2).mono ?_; rintro e v ⟨rfl, h⟩; have hbw := bthen hbw h)
    | (go_at_call_of 15 (#[Value.string b, Value.string ⟨#[48]⟩]); refine (natural_Compare.calls _ _ _ _ _ c3).mono ?_; rintro e v ⟨rfl, h⟩; have hbw := bthen hbw h)
    | (go_at_call_of 15 (#[Value.string a, Value.string ⟨#[48]⟩]); refine (natural_Compare.calls _ _ _ _ _ c4).mono ?_; rintro e v ⟨rfl, h⟩; have hbw := bthen hbw h)
    | (go_at_call_of 20 (#[Value.string a, Value.string b]); refine (natural_Sub.calls _ _ _ _ _ s1 (hG.below hbw)).mono ?_; rintro e v ⟨rfl, h⟩; have hbw := bthen hbw h)
    | (go_at_call_of 19 (#[Value.string a, Value.string ⟨#[48]⟩]); refine (natural_Add.calls _ _ _ _ _ a1 (hG.below hbw)).mono ?_; rintro e v ⟨rfl, h⟩; have hbw := bthen hbw h)
    | (go_at_call_of 19 (#[Value.string b, Value.string ⟨#[48]⟩]); refine (natural_Add.calls _ _ _ _ _ a2 (hG.below hbw)).mono ?_; rintro e v ⟨rfl, h⟩; have hbw := bthen hbw h)
    | (go_at_call_of 15 (#[Value.string p, Value.string q]); refine (natural_Compare.calls _ _ _ _ _ c5).mono ?_; rintro e v ⟨rfl, h⟩; have hbw := bthen hbw h)
    | (go_at_call_of 18 (#[Value.string a, Value.string ⟨#[48]⟩]); refine (natural_Mul.calls _ _ _ _ _ m1 (hG.below hbw)).mono ?_; rintro e v ⟨rfl, h⟩; have hbw := bthen hbw h)
    | (go_at_call_of 18 (#[Value.string b, Value.string ⟨#[48]⟩]); refine (natural_Mul.calls _ _ _ _ _ m2 (hG.below hbw)).mono ?_; rintro e v ⟨rfl, h⟩; have hbw := bthen hbw h)
    | (go_at_call_of 15 (#[Value.string r, Value.string s]); refine (natural_Compare.calls _ _ _ _ _ c6).mono ?_; rintro e v ⟨rfl, h⟩; have hbw := bthen hbw h))
  go_ret
  exact ⟨rfl, hbw⟩

theorem ord3aa (a b c d p q r s : ByteArray) (f2 n h2 m k l : Int) (w : World) (hG : GOK w)
    (i1 : natural_Is.f a = some true) (i2 : natural_Is.f b = some true) (i3 : natural_Is.f c = some true) (c1 : natural_Compare.f a b = some (0, 0)) (c2 : natural_Compare.f b a = some (0, 0)) (c3 : natural_Compare.f b c = some ((-1), 0)) (c4 : natural_Compare.f a c = some ((-1), 0)) (s1 : natural_Sub.f a b = some (d, 0)) (a1 : natural_Add.f a c = some (p, 2)) (a2 : natural_Add.f b c = some (q, f2)) (c5 : natural_Compare.f p q = some (n, k)) (m1 : natural_Mul.f a c = some (r, 2)) (m2 : natural_Mul.f b c = some (s, h2)) (c6 : natural_Compare.f r s = some (m, l)) (hc : c ≠ ⟨#[48]⟩) :
    Calls Tryd.prog 6 #[.string a, .string b, .string c] w fun e w' => e = .returned (.bool true) ∧ Below w.heap.size w w' := by
  have hc' : (c.toList == [48]) = false := by rw [beq_eq_false_iff_ne]; exact fun h => hc (tl.1 (by rw [h, Lib.toList_data]))
  go_enter Tryd.func6, Tryd.ntmps6
  go_wp2_with (first
    | (go_at_call 11; refine (headCB _ hG).mono ?_; rintro e w1 ⟨rfl, hb1⟩; have hbw := hb1)
    | (go_at_call_of 14 (#[Value.string a]); refine (natural_Is.calls _ _ _ i1).mono ?_; rintro e v ⟨rfl, h⟩; have hbw := bthen hbw h)
    | (go_at_call_of 14 (#[Value.string b]); refine (natural_Is.calls _ _ _ i2).mono ?_; rintro e v ⟨rfl, h⟩; have hbw := bthen hbw h)
    | (go_at_call_of 14 (#[Value.string c]); refine (natural_Is.calls _ _ _ i3).mono ?_; rintro e v ⟨rfl, h⟩; have hbw := bthen hbw h)
    | (go_at_call_of 15 (#[Value.string a, Value.string b]); refine (natural_Compare.calls _ _ _ _ _ c1).mono ?_; rintro e v ⟨rfl, h⟩; have hbw := bthen hbw h)
    | (go_at_call_of 15 (#[Value.string b, Value.string a]); refine (natural_Compare.calls _ _ _ _ _ c2).mono ?_; rintro e v ⟨rfl, h⟩; have hbw := bthen hbw h)
    | (go_at_call_of 15 (#[Value.string b, Value.string c]); refine (natural_Compare.calls _ _ _ _ _ c3).mono ?_; rintro e v ⟨rfl, h⟩; have hbw := bthen hbw h)
    | (go_at_call_of 15 (#[Value.string a, Value.string c]); refine (natural_Compare.calls _ _ _ _ _ c4).mono ?_; rintro e v ⟨rfl, h⟩; have hbw := bthen hbw h)
    | (go_at_call_of 20 (#[Value.string a, Value.string b]); refine (natural_Sub.calls _ _ _ _ _ s1 (hG.below hbw)).mono ?_; rintro e v ⟨rfl, h⟩; have hbw := bthen hbw h)
    | (go_at_call_of 19 (#[Value.string a, Value.string c]); refine (natural_Add.calls _ _ _ _ _ a1 (hG.below hbw)).mono ?_; rintro e v ⟨rfl, h⟩; have hbw := bthen hbw h)
    | (go_at_call_of 19 (#[Value.string b, Value.string c]); refine (natural_Add.calls _ _ _ _ _ a2 (hG.below hbw)).mono ?_; rintro e v ⟨rfl, h⟩; have hbw := bthen hbw h)
    | (go_at_call_of 15 (#[Value.string p, Value.string q]); refine (natural_Compare.calls _ _ _ _ _ c5).mono ?_; rintro e v ⟨rfl, h⟩; have hbw := bthen hbw h)
    | (go_at_call_of 18 (#[Value.string a, Value.string c]); refine (natural_Mul.calls _ _ _ _ _ m1 (hG.below hbw)).mono ?_; rintro e v ⟨rfl, h⟩; have hbw := bthen hbw h)
    | (go_at_call_of 18 (#[Value.string b, Value.string c]); refine (natural_Mul.calls _ _ _ _ _ m2 (hG.below hbw)).mono ?_; rintro e v ⟨rfl, h⟩; have hbw := bthen hbw h)
    | (go_at_call_of 15 (#[Value.string r, Value.string s]); refine (natural_Compare.calls _ _ _ _ _ c6).mono ?_; rintro e v ⟨rfl, h⟩; have hbw := bthen hbw h))
  go_ret
  exact ⟨rfl, hbw⟩

theorem ord3ab (a b c d p q r s : ByteArray) (f2 n m k l : Int) (w : World) (hG : GOK w)
    (i1 : natural_Is.f a = some true) (i2 : natural_Is.f b = some true) (i3 : natural_Is.f c = some true) (c1 : natural_Compare.f a b = some (0, 0)) (c2 : natural_Compare.f b a = some (0, 0)) (c3 : natural_Compare.f b c = some ((-1), 0)) (c4 : natural_Compare.f a c = some ((-1), 0)) (s1 : natural_Sub.f a b = some (d, 0)) (a1 : natural_Add.f a c = some (p, 2)) (a2 : natural_Add.f b c = some (q, f2)) (c5 : natural_Compare.f p q = some (n, k)) (m1 : natural_Mul.f a c = some (r, 0)) (m2 : natural_Mul.f b c = some (s, 2)) (c6 : natural_Compare.f r s = some (m, l)) (hc : c ≠ ⟨#[48]⟩) :
    Calls Tryd.prog 6 #[.string a, .string b, .string c] w fun e w' => e = .returned (.bool true) ∧ Below w.heap.size w w' := by
  have hc' : (c.toList == [48]) = false := by rw [beq_eq_false_iff_ne]; exact fun h => hc (tl.1 (by rw [h, Lib.toList_data]))
  go_enter Tryd.func6, Tryd.ntmps6
  go_wp2_with (first
    | (go_at_call 11; refine (headCB _ hG).mono ?_; rintro e w1 ⟨rfl, hb1⟩; have hbw := hb1)
    | (go_at_call_of 14 (#[Value.string a]); refine (natural_Is.calls _ _ _ i1).mono ?_; rintro e v ⟨rfl, h⟩; have hbw := bthen hbw h)
    | (go_at_call_of 14 (#[Value.string b]); refine (natural_Is.calls _ _ _ i2).mono ?_; rintro e v ⟨rfl, h⟩; have hbw := bthen hbw h)
    | (go_at_call_of 14 (#[Value.string c]); refine (natural_Is.calls _ _ _ i3).mono ?_; rintro e v ⟨rfl, h⟩; have hbw := bthen hbw h)
    | (go_at_call_of 15 (#[Value.string a, Value.string b]); refine (natural_Compare.calls _ _ _ _ _ c1).mono ?_; rintro e v ⟨rfl, h⟩; have hbw := bthen hbw h)
    | (go_at_call_of 15 (#[Value.string b, Value.string a]); refine (natural_Compare.calls _ _ _ _ _ c2).mono ?_; rintro e v ⟨rfl, h⟩; have hbw := bthen hbw h)
    | (go_at_call_of 15 (#[Value.string b, Value.string c]); refine (natural_Compare.calls _ _ _ _ _ c3).mono ?_; rintro e v ⟨rfl, h⟩; have hbw := bthen hbw h)
    | (go_at_call_of 15 (#[Value.string a, Value.string c]); refine (natural_Compare.calls _ _ _ _ _ c4).mono ?_; rintro e v ⟨rfl, h⟩; have hbw := bthen hbw h)
    | (go_at_call_of 20 (#[Value.string a, Value.string b]); refine (natural_Sub.calls _ _ _ _ _ s1 (hG.below hbw)).mono ?_; rintro e v ⟨rfl, h⟩; have hbw := bthen hbw h)
    | (go_at_call_of 19 (#[Value.string a, Value.string c]); refine (natural_Add.calls _ _ _ _ _ a1 (hG.below hbw)).mono ?_; rintro e v ⟨rfl, h⟩; have hbw := bthen hbw h)
    | (go_at_call_of 19 (#[Value.string b, Value.string c]); refine (natural_Add.calls _ _ _ _ _ a2 (hG.below hbw)).mono ?_; rintro e v ⟨rfl, h⟩; have hbw := bthen hbw h)
    | (go_at_call_of 15 (#[Value.string p, Value.string q]); refine (natural_Compare.calls _ _ _ _ _ c5).mono ?_; rintro e v ⟨rfl, h⟩; have hbw := bthen hbw h)
    | (go_at_call_of 18 (#[Value.string a, Value.string c]); refine (natural_Mul.calls _ _ _ _ _ m1 (hG.below hbw)).mono ?_; rintro e v ⟨rfl, h⟩; have hbw := bthen hbw h)
    | (go_at_call_of 18 (#[Value.string b, Value.string c]); refine (natural_Mul.calls _ _ _ _ _ m2 (hG.below hbw)).mono ?_; rintro e v ⟨rfl, h⟩; have hbw := bthen hbw h)
    | (go_at_call_of 15 (#[Value.string r, Value.string s]); refine (natural_Compare.calls _ _ _ _ _ c6).mono ?_; rintro e v ⟨rfl, h⟩; have hbw := bthen hbw h))
  go_ret
  exact ⟨rfl, hbw⟩

theorem ord3ac (a b c d p q r s : ByteArray) (f2 n k l : Int) (w : World) (hG : GOK w)
    (i1 : natural_Is.f a = some true) (i2 : natural_Is.f b = some true) (i3 : natural_Is.f c = some true) (c1 : natural_Compare.f a b = some (0, 0)) (c2 : natural_Compare.f b a = some (0, 0)) (c3 : natural_Compare.f b c = some ((-1), 0)) (c4 : natural_Compare.f a c = some ((-1), 0)) (s1 : natural_Sub.f a b = some (d, 0)) (a1 : natural_Add.f a c = some (p, 2)) (a2 : natural_Add.f b c = some (q, f2)) (c5 : natural_Compare.f p q = some (n, k)) (m1 : natural_Mul.f a c = some (r, 0)) (m2 : natural_Mul.f b c = some (s, 0)) (c6 : natural_Compare.f r s = some (0, l)) (hc : c ≠ ⟨#[48]⟩) :
    Calls Tryd.prog 6 #[.string a, .string b, .string c] w fun e w' => e = .returned (.bool true) ∧ Below w.heap.size w w' := by
  have hc' : (c.toList == [48]) = false := by rw [beq_eq_false_iff_ne]; exact fun h => hc (tl.1 (by rw [h, Lib.toList_data]))
  go_enter Tryd.func6, Tryd.ntmps6
  go_wp2_with (first
    | (go_at_call 11; refine (headCB _ hG).mono ?_; rintro e w1 ⟨rfl, hb1⟩; have hbw := hb1)
    | (go_at_call_of 14 (#[Value.string a]); refine (natural_Is.calls _ _ _ i1).mono ?_; rintro e v ⟨rfl, h⟩; have hbw := bthen hbw h)
    | (go_at_call_of 14 (#[Value.string b]); refine (natural_Is.calls _ _ _ i2).mono ?_; rintro e v ⟨rfl, h⟩; have hbw := bthen hbw h)
    | (go_at_call_of 14 (#[Value.string c]); refine (natural_Is.calls _ _ _ i3).mono ?_; rintro e v ⟨rfl, h⟩; have hbw := bthen hbw h)
    | (go_at_call_of 15 (#[Value.string a, Value.string b]); refine (natural_Compare.calls _ _ _ _ _ c1).mono ?_; rintro e v ⟨rfl, h⟩; have hbw := bthen hbw h)
    | (go_at_call_of 15 (#[Value.string b, Value.string a]); refine (natural_Compare.calls _ _ _ _ _ c2).mono ?_; rintro e v ⟨rfl, h⟩; have hbw := bthen hbw h)
    | (go_at_call_of 15 (#[Value.string b, Value.string c]); refine (natural_Compare.calls _ _ _ _ _ c3).mono ?_; rintro e v ⟨rfl, h⟩; have hbw := bthen hbw h)
    | (go_at_call_of 15 (#[Value.string a, Value.string c]); refine (natural_Compare.calls _ _ _ _ _ c4).mono ?_; rintro e v ⟨rfl, h⟩; have hbw := bthen hbw h)
    | (go_at_call_of 20 (#[Value.string a, Value.string b]); refine (natural_Sub.calls _ _ _ _ _ s1 (hG.below hbw)).mono ?_; rintro e v ⟨rfl, h⟩; have hbw := bthen hbw h)
    | (go_at_call_of 19 (#[Value.string a, Value.string c]); refine (natural_Add.calls _ _ _ _ _ a1 (hG.below hbw)).mono ?_; rintro e v ⟨rfl, h⟩; have hbw := bthen hbw h)
    | (go_at_call_of 19 (#[Value.string b, Value.string c]); refine (natural_Add.calls _ _ _ _ _ a2 (hG.below hbw)).mono ?_; rintro e v ⟨rfl, h⟩; have hbw := bthen hbw h)
    | (go_at_call_of 15 (#[Value.string p, Value.string q]); refine (natural_Compare.calls _ _ _ _ _ c5).mono ?_; rintro e v ⟨rfl, h⟩; have hbw := bthen hbw h)
    | (go_at_call_of 18 (#[Value.string a, Value.string c]); refine (natural_Mul.calls _ _ _ _ _ m1 (hG.below hbw)).mono ?_; rintro e v ⟨rfl, h⟩; have hbw := bthen hbw h)
    | (go_at_call_of 18 (#[Value.string b, Value.string c]); refine (natural_Mul.calls _ _ _ _ _ m2 (hG.below hbw)).mono ?_; rintro e v ⟨rfl, h⟩; have hbw := bthen hbw h)
    | (go_at_call_of 15 (#[Value.string r, Value.string s]); refine (natural_Compare.calls _ _ _ _ _ c6).mono ?_; rintro e v ⟨rfl, h⟩; have hbw := bthen hbw h))
  go_ret
  exact ⟨rfl, hbw⟩

theorem ord3bz (a b d p q r s : ByteArray) (n g2 h2 m k l : Int) (w : World) (hG : GOK w)
    (i1 : natural_Is.f a = some true) (i2 : natural_Is.f b = some true) (i3 : natural_Is.f ⟨#[48]⟩ = some true) (c1 : natural_Compare.f a b = some (0, 0)) (c2 : natural_Compare.f b a = some (0, 0)) (c3 : natural_Compare.f b ⟨#[48]⟩ = some ((-1), 0)) (c4 : natural_Compare.f a ⟨#[48]⟩ = some ((-1), 0)) (s1 : natural_Sub.f a b = some (d, 0)) (a1 : natural_Add.f a ⟨#[48]⟩ = some (p, 0)) (a2 : natural_Add.f b ⟨#[48]⟩ = some (q, 2)) (c5 : natural_Compare.f p q = some (n, k)) (m1 : natural_Mul.f a ⟨#[48]⟩ = some (r, g2)) (m2 : natural_Mul.f b ⟨#[48]⟩ = some (s, h2)) (c6 : natural_Compare.f r s = some (m, l)) :
    Calls Tryd.prog 6 #[.string a, .string b, .string ⟨#[48]⟩] w fun e w' => e = .returned (.bool true) ∧ Below w.heap.size w w' := by
  go_enter Tryd.func6, Tryd.ntmps6
  go_wp2_with (first
    | (go_at_call 11; refine (headCB _ hG).mono ?_; rintro e w1 ⟨rfl, hb1⟩; have hbw := hb1)
    | (go_at_call_of 14 (#[Value.string a]); refine (natural_Is.calls _ _ _ i1).mono ?_; rintro e v ⟨rfl, h⟩; have hbw := bthen hbw h)
    | (go_at_call_of 14 (#[Value.string b]); refine (natural_Is.calls _ _ _ i2).mono ?_; rintro e v ⟨rfl, h⟩; have hbw := bthen hbw h)
    | (go_at_call_of 14 (#[Value.string ⟨#[48]⟩]); refine (natural_Is.calls _ _ _ i3).mono ?_; rintro e v ⟨rfl, h⟩; have hbw := bthen hbw h)
    | (go_at_call_of 15 (#[Value.string a, Value.string b]); refine (natural_Compare.calls _ _ _ _ _ c1).mono ?_; rintro e v ⟨rfl, h⟩; have hbw := bthen hbw h)
    | (go_at_call_of 15 (#[Value.string b, Value.string a]); refine (natural_Compare.calls _ _ _ _ _ c2).mono ?_; rintro e v ⟨rfl, h⟩; have hbw := bthen hbw h)
    | (go_at_call_of 15 (#[Value.string b, Value.string ⟨#[48]⟩]); refine (natural_Compare.calls _ _ _ _ _ c3).mono ?_; rintro e v ⟨rfl, h⟩; have hbw := bthen hbw h)
    | (go_at_call_of 15 (#[Value.string a, Value.string ⟨#[48]⟩]); refine (natural_Compare.calls _ _ _ _ _ c4).mono ?_; rintro e v ⟨rfl, h⟩; have hbw := bthen hbw h)
    | (go_at_call_of 20 (#[Value.string a, Value.string b]); refine (natural_Sub.calls _ _ _ _ _ s1 (hG.below hbw)).mono ?_; rintro e v ⟨rfl, h⟩; have hbw := bthen hbw h)
    | (go_at_call_of 19 (#[Value.string a, Value.string ⟨#[48]⟩]); refine (natural_Add.calls _ _ _ _ _ a1 (hG.below hbw)).mono ?_; rintro e v ⟨rfl, h⟩; have hbw := bthen hbw h)
    | (go_at_call_of 19 (#[Value.string b, Value.string ⟨#[48]⟩]); refine (natural_Add.calls _ _ _ _ _ a2 (hG.below hbw)).mono ?_; rintro e v ⟨rfl, h⟩; have hbw := bthen hbw h)
    | (go_at_call_of 15 (#[Value.string p, Value.string q]); refine (natural_Compare.calls _ _ _ _ _ c5).mono ?_; rintro e v ⟨rfl, h⟩; have hbw := bthen hbw h)
    | (go_at_call_of 18 (#[Value.string a, Value.string ⟨#[48]⟩]); refine (natural_Mul.calls _ _ _ _ _ m1 (hG.below hbw)).mono ?_; rintro e v ⟨rfl, h⟩; have hbw := bthen hbw h)
    | (go_at_call_of 18 (#[Value.string b, Value.string ⟨#[48]⟩]); refine (natural_Mul.calls _ _ _ _ _ m2 (hG.below hbw)).mono ?_; rintro e v ⟨rfl, h⟩; have hbw := bthen hbw h)
    | (go_at_call_of 15 (#[Value.string r, Value.string s]); refine (natural_Compare.calls _ _ _ _ _ c6).mono ?_; rintro e v ⟨rfl, h⟩; have hbw := bthen hbw h))
  go_ret
  exact ⟨rfl, hbw⟩

theorem ord3ba (a b c d p q r s : ByteArray) (n h2 m k l : Int) (w : World) (hG : GOK w)
    (i1 : natural_Is.f a = some true) (i2 : natural_Is.f b = some true) (i3 : natural_Is.f c = some true) (c1 : natural_Compare.f a b = some (0, 0)) (c2 : natural_Compare.f b a = some (0, 0)) (c3 : natural_Compare.f b c = some ((-1), 0)) (c4 : natural_Compare.f a c = some ((-1), 0)) (s1 : natural_Sub.f a b = some (d, 0)) (a1 : natural_Add.f a c = some (p, 0)) (a2 : natural_Add.f b c = some (q, 2)) (c5 : natural_Compare.f p q = some (n, k)) (m1 : natural_Mul.f a c = some (r, 2)) (m2 : natural_Mul.f b c = some (s, h2)) (c6 : natural_Compare.f r s = some (m, l)) (hc : c ≠ ⟨#[48]⟩) :
    Calls Tryd.prog 6 #[.string a, .string b, .string c] w fun e w' => e = .returned (.bool true) ∧ Below w.heap.size w w' := by
  have hc' : (c.toList == [48]) = false := by rw [beq_eq_false_iff_ne]; exact fun h => hc (tl.1 (by rw [h, Lib.toList_data]))
  go_enter Tryd.func6, Tryd.ntmps6
  go_wp2_with (first
    | (go_at_call 11; refine (headCB _ hG).mono ?_; rintro e w1 ⟨rfl, hb1⟩; have hbw := hb1)
    | (go_at_call_of 14 (#[Value.string a]); refine (natural_Is.calls _ _ _ i1).mono ?_; rintro e v ⟨rfl, h⟩; have hbw := bthen hbw h)
    | (go_at_call_of 14 (#[Value.string b]); refine (natural_Is.calls _ _ _ i2).mono ?_; rintro e v ⟨rfl, h⟩; have hbw := bthen hbw h)
    | (go_at_call_of 14 (#[Value.string c]); refine (natural_Is.calls _ _ _ i3).mono ?_; rintro e v ⟨rfl, h⟩; have hbw := bthen hbw h)
    | (go_at_call_of 15 (#[Value.string a, Value.string b]); refine (natural_Compare.calls _ _ _ _ _ c1).mono ?_; rintro e v ⟨rfl, h⟩; have hbw := bthen hbw h)
    | (go_at_call_of 15 (#[Value.string b, Value.string a]); refine (natural_Compare.calls _ _ _ _ _ c2).mono ?_; rintro e v ⟨rfl, h⟩; have hbw := bthen hbw h)
    | (go_at_call_of 15 (#[Value.string b, Value.string c]); refine (natural_Compare.calls _ _ _ _ _ c3).mono ?_; rintro e v ⟨rfl, h⟩; have hbw := bthen hbw h)
    | (go_at_call_of 15 (#[Value.string a, Value.string c]); refine (natural_Compare.calls _ _ _ _ _ c4).mono ?_; rintro e v ⟨rfl, h⟩; have hbw := bthen hbw h)
    | (go_at_call_of 20 (#[Value.string a, Value.string b]); refine (natural_Sub.calls _ _ _ _ _ s1 (hG.below hbw)).mono ?_; rintro e v ⟨rfl, h⟩; have hbw := bthen hbw h)
    | (go_at_call_of 19 (#[Value.string a, Value.string c]); refine (natural_Add.calls _ _ _ _ _ a1 (hG.below hbw)).mono ?_; rintro e v ⟨rfl, h⟩; have hbw := bthen hbw h)
    | (go_at_call_of 19 (#[Value.string b, Value.string c]); refine (natural_Add.calls _ _ _ _ _ a2 (hG.below hbw)).mono ?_; rintro e v ⟨rfl, h⟩; have hbw := bthen hbw h)
    | (go_at_call_of 15 (#[Value.string p, Value.string q]); refine (natural_Compare.calls _ _ _ _ _ c5).mono ?_; rintro e v ⟨rfl, h⟩; have hbw := bthen hbw h)
    | (go_at_call_of 18 (#[Value.string a, Value.string c]); refine (natural_Mul.calls _ _ _ _ _ m1 (hG.below hbw)).mono ?_; rintro e v ⟨rfl, h⟩; have hbw := bthen hbw h)
    | (go_at_call_of 18 (#[Value.string b, Value.string c]); refine (natural_Mul.calls _ _ _ _ _ m2 (hG.below hbw)).mono ?_; rintro e v ⟨rfl, h⟩; have hbw := bthen hbw h)
    | (go_at_call_of 15 (#[Value.string r, Value.string s]); refine (natural_Compare.calls _ _ _ _ _ c6).mono ?_; rintro e v ⟨rfl, h⟩; have hbw := bthen hbw h))
  go_ret
  exact ⟨rfl, hbw⟩

theorem ord3bb (a b c d p q r s : ByteArray) (n m k l : Int) (w : World) (hG : GOK w)
    (i1 : natural_Is.f a = some true) (i2 : natural_Is.f b = some true) (i3 : natural_Is.f c = some true) (c1 : natural_Compare.f a b = some (0, 0)) (c2 : natural_Compare.f b a = some (0, 0)) (c3 : natural_Compare.f b c = some ((-1), 0)) (c4 : natural_Compare.f a c = some ((-1), 0)) (s1 : natural_Sub.f a b = some (d, 0)) (a1 : natural_Add.f a c = some (p, 0)) (a2 : natural_Add.f b c = some (q, 2)) (c5 : natural_Compare.f p q = some (n, k)) (m1 : natural_Mul.f a c = some (r, 0)) (m2 : natural_Mul.f b c = some (s, 2)) (c6 : natural_Compare.f r s = some (m, l)) (hc : c ≠ ⟨#[48]⟩) :
    Calls Tryd.prog 6 #[.string a, .string b, .string c] w fun e w' => e = .returned (.bool true) ∧ Below w.heap.size w w' := by
  have hc' : (c.toList == [48]) = false := by rw [beq_eq_false_iff_ne]; exact fun h => hc (tl.1 (by rw [h, Lib.toList_data]))
  go_enter Tryd.func6, Tryd.ntmps6
  go_wp2_with (first
    | (go_at_call 11; refine (headCB _ hG).mono ?_; rintro e w1 ⟨rfl, hb1⟩; have hbw := hb1)
    | (go_at_call_of 14 (#[Value.string a]); refine (natural_Is.calls _ _ _ i1).mono ?_; rintro e v ⟨rfl, h⟩; have hbw := bthen hbw h)
    | (go_at_call_of 14 (#[Value.string b]); refine (natural_Is.calls _ _ _ i2).mono ?_; rintro e v ⟨rfl, h⟩; have hbw := bthen hbw h)
    | (go_at_call_of 14 (#[Value.string c]); refine (natural_Is.calls _ _ _ i3).mono ?_; rintro e v ⟨rfl, h⟩; have hbw := bthen hbw h)
    | (go_at_call_of 15 (#[Value.string a, Value.string b]); refine (natural_Compare.calls _ _ _ _ _ c1).mono ?_; rintro e v ⟨rfl, h⟩; have hbw := bthen hbw h)
    | (go_at_call_of 15 (#[Value.string b, Value.string a]); refine (natural_Compare.calls _ _ _ _ _ c2).mono ?_; rintro e v ⟨rfl, h⟩; have hbw := bthen hbw h)
    | (go_at_call_of 15 (#[Value.string b, Value.string c]); refine (natural_Compare.calls _ _ _ _ _ c3).mono ?_; rintro e v ⟨rfl, h⟩; have hbw := bthen hbw h)
    | (go_at_call_of 15 (#[Value.string a, Value.string c]); refine (natural_Compare.calls _ _ _ _ _ c4).mono ?_; rintro e v ⟨rfl, h⟩; have hbw := bthen hbw h)
    | (go_at_call_of 20 (#[Value.string a, Value.string b]); refine (natural_Sub.calls _ _ _ _ _ s1 (hG.below hbw)).mono ?_; rintro e v ⟨rfl, h⟩; have hbw := bthen hbw h)
    | (go_at_call_of 19 (#[Value.string a, Value.string c]); refine (natural_Add.calls _ _ _ _ _ a1 (hG.below hbw)).mono ?_; rintro e v ⟨rfl, h⟩; have hbw := bthen hbw h)
    | (go_at_call_of 19 (#[Value.string b, Value.string c]); refine (natural_Add.calls _ _ _ _ _ a2 (hG.below hbw)).mono ?_; rintro e v ⟨rfl, h⟩; have hbw := bthen hbw h)
    | (go_at_call_of 15 (#[Value.string p, Value.string q]); refine (natural_Compare.calls _ _ _ _ _ c5).mono ?_; rintro e v ⟨rfl, h⟩; have hbw := bthen hbw h)
    | (go_at_call_of 18 (#[Value.string a, Value.string c]); refine (natural_Mul.calls _ _ _ _ _ m1 (hG.below hbw)).mono ?_; rintro e v ⟨rfl, h⟩; have hbw := bthen hbw h)
    | (go_at_call_of 18 (#[Value.string b, Value.string c]); refine (natural_Mul.calls _ _ _ _ _ m2 (hG.below hbw)).mono ?_; rintro e v ⟨rfl, h⟩; have hbw := bthen hbw h)
    | (go_at_call_of 15 (#[Value.string r, Value.string s]); refine (natural_Compare.calls _ _ _ _ _ c6).mono ?_; rintro e v ⟨rfl, h⟩; have hbw := bthen hbw h))
  go_ret
  exact ⟨rfl, hbw⟩

theorem ord3bc (a b c d p q r s : ByteArray) (n k l : Int) (w : World) (hG : GOK w)
    (i1 : natural_Is.f a = some true) (i2 : natural_Is.f b = some true) (i3 : natural_Is.f c = some true) (c1 : natural_Compare.f a b = some (0, 0)) (c2 : natural_Compare.f b a = some (0, 0)) (c3 : natural_Compare.f b c = some ((-1), 0)) (c4 : natural_Compare.f a c = some ((-1), 0)) (s1 : natural_Sub.f a b = some (d, 0)) (a1 : natural_Add.f a c = some (p, 0)) (a2 : natural_Add.f b c = some (q, 2)) (c5 : natural_Compare.f p q = some (n, k)) (m1 : natural_Mul.f a c = some (r, 0)) (m2 : natural_Mul.f b c = some (s, 0)) (c6 : natural_Compare.f r s = some (0, l)) (hc : c ≠ ⟨#[48]⟩) :
    Calls Tryd.prog 6 #[.string a, .string b, .string c] w fun e w' => e = .returned (.bool true) ∧ Below w.heap.size w w' := by
  have hc' : (c.toList == [48]) = false := by rw [beq_eq_false_iff_ne]; exact fun h => hc (tl.1 (by rw [h, Lib.toList_data]))
  go_enter Tryd.func6, Tryd.ntmps6
  go_wp2_with (first
    | (go_at_call 11; refine (headCB _ hG).mono ?_; rintro e w1 ⟨rfl, hb1⟩; have hbw := hb1)
    | (go_at_call_of 14 (#[Value.string a]); refine (natural_Is.calls _ _ _ i1).mono ?_; rintro e v ⟨rfl, h⟩; have hbw := bthen hbw h)
    | (go_at_call_of 14 (#[Value.string b]); refine (natural_Is.calls _ _ _ i2).mono ?_; rintro e v ⟨rfl, h⟩; have hbw := bthen hbw h)
    | (go_at_call_of 14 (#[Value.string c]); refine (natural_Is.calls _ _ _ i3).mono ?_; rintro e v ⟨rfl, h⟩; have hbw := bthen hbw h)
    | (go_at_call_of 15 (#[Value.string a, Value.string b]); refine (natural_Compare.calls _ _ _ _ _ c1).mono ?_; rintro e v ⟨rfl, h⟩; have hbw := bthen hbw h)
    | (go_at_call_of 15 (#[Value.string b, Value.string a]); refine (natural_Compare.calls _ _ _ _ _ c2).mono ?_; rintro e v ⟨rfl, h⟩; have hbw := bthen hbw h)
    | (go_at_call_of 15 (#[Value.string b, Value.string c]); refine (natural_Compare.calls _ _ _ _ _ c3).mono ?_; rintro e v ⟨rfl, h⟩; have hbw := bthen hbw h)
    | (go_at_call_of 15 (#[Value.string a, Value.string c]); refine (natural_Compare.calls _ _ _ _ _ c4).mono ?_; rintro e v ⟨rfl, h⟩; have hbw := bthen hbw h)
    | (go_at_call_of 20 (#[Value.string a, Value.string b]); refine (natural_Sub.calls _ _ _ _ _ s1 (hG.below hbw)).mono ?_; rintro e v ⟨rfl, h⟩; have hbw := bthen hbw h)
    | (go_at_call_of 19 (#[Value.string a, Value.string c]); refine (natural_Add.calls _ _ _ _ _ a1 (hG.below hbw)).mono ?_; rintro e v ⟨rfl, h⟩; have hbw := bthen hbw h)
    | (go_at_call_of 19 (#[Value.string b, Value.string c]); refine (natural_Add.calls _ _ _ _ _ a2 (hG.below hbw)).mono ?_; rintro e v ⟨rfl, h⟩; have hbw := bthen hbw h)
    | (go_at_call_of 15 (#[Value.string p, Value.string q]); refine (natural_Compare.calls _ _ _ _ _ c5).mono ?_; rintro e v ⟨rfl, h⟩; have hbw := bthen hbw h)
    | (go_at_call_of 18 (#[Value.string a, Value.string c]); refine (natural_Mul.calls _ _ _ _ _ m1 (hG.below hbw)).mono ?_; rintro e v ⟨rfl, h⟩; have hbw := bthen hbw h)
    | (go_at_call_of 18 (#[Value.string b, Value.string c]); refine (natural_Mul.calls _ _ _ _ _ m2 (hG.below hbw)).mono ?_; rintro e v ⟨rfl, h⟩; have hbw := bthen hbw h)
    | (go_at_call_of 15 (#[Value.string r, Value.string s]); refine (natural_Compare.calls _ _ _ _ _ c6).mono ?_; rintro e v ⟨rfl, h⟩; have hbw := bthen hbw h))
  go_ret
  exact ⟨rfl, hbw⟩

theorem ord3cz (a b d p q r s : ByteArray) (g2 h2 m k l : Int) (w : World) (hG : GOK w)
    (i1 : natural_Is.f a = some true) (i2 : natural_Is.f b = some true) (i3 : natural_Is.f ⟨#[48]⟩ = some true) (c1 : natural_Compare.f a b = some (0, 0)) (c2 : natural_Compare.f b a = some (0, 0)) (c3 : natural_Compare.f b ⟨#[48]⟩ = some ((-1), 0)) (c4 : natural_Compare.f a ⟨#[48]⟩ = some ((-1), 0)) (s1 : natural_Sub.f a b = some (d, 0)) (a1 : natural_Add.f a ⟨#[48]⟩ = some (p, 0)) (a2 : natural_Add.f b ⟨#[48]⟩ = some (q, 0)) (c5 : natural_Compare.f p q = some (0, k)) (m1 : natural_Mul.f a ⟨#[48]⟩ = some (r, g2)) (m2 : natural_Mul.f b ⟨#[48]⟩ = some (s, h2)) (c6 : natural_Compare.f r s = some (m, l)) :
    Calls Tryd.prog 6 #[.string a, .string b, .string ⟨#[48]⟩] w fun e w' => e = .returned (.bool true) ∧ Below w.heap.size w w' := by
  go_enter Tryd.func6, Tryd.ntmps6
  go_wp2_with (first
    | (go_at_call 11; refine (headCB _ hG).mono ?_; rintro e w1 ⟨rfl, hb1⟩; have hbw := hb1)
    | (go_at_call_of 14 (#[Value.string a]); refine (natural_Is.calls _ _ _ i1).mono ?_; rintro e v ⟨rfl, h⟩; have hbw := bthen hbw h)
    | (go_at_call_of 14 (#[Value.string b]); refine (natural_Is.calls _ _ _ i2).mono ?_; rintro e v ⟨rfl, h⟩; have hbw := bthen hbw h)
    | (go_at_call_of 14 (#[Value.string ⟨#[48]⟩]); refine (natural_Is.calls _ _ _ i3).mono ?_; rintro e v ⟨rfl, h⟩; have hbw := bthen hbw h)
    | (go_at_call_of 15 (#[Value.string a, Value.string b]); refine (natural_Compare.calls _ _ _ _ _ c1).mono ?_; rintro e v ⟨rfl, h⟩; have hbw := bthen hbw h)
    | (go_at_call_of 15 (#[Value.string b, Value.string a]); refine (natural_Compare.calls _ _ _ _ _ c2).mono ?_; rintro e v ⟨rfl, h⟩; have hbw := bthen hbw h)
    | (go_at_call_of 15 (#[Value.string b, Value.string ⟨#[48]⟩]); refine (natural_Compare.calls _ _ _ _ _ c3).mono ?_; rintro e v ⟨rfl, h⟩; have hbw := bthen hbw h)
    | (go_at_call_of 15 (#[Value.string a, Value.string ⟨#[48]⟩]); refine (natural_Compare.calls _ _ _ _ _ c4).mono ?_; rintro e v ⟨rfl, h⟩; have hbw := bthen hbw h)
    | (go_at_call_of 20 (#[Value.string a, Value.string b]); refine (natural_Sub.calls _ _ _ _ _ s1 (hG.below hbw)).mono ?_; rintro e v ⟨rfl, h⟩; have hbw := bthen hbw h)
    | (go_at_call_of 19 (#[Value.string a, Value.string ⟨#[48]⟩]); refine (natural_Add.calls _ _ _ _ _ a1 (hG.below hbw)).mono ?_; rintro e v ⟨rfl, h⟩; have hbw := bthen hbw h)
    | (go_at_call_of 19 (#[Value.string b, Value.string ⟨#[48]⟩]); refine (natural_Add.calls _ _ _ _ _ a2 (hG.below hbw)).mono ?_; rintro e v ⟨rfl, h⟩; have hbw := bthen hbw h)
    | (go_at_call_of 15 (#[Value.string p, Value.string q]); refine (natural_Compare.calls _ _ _ _ _ c5).mono ?_; rintro e v ⟨rfl, h⟩; have hbw := bthen hbw h)
    | (go_at_call_of 18 (#[Value.string a, Value.string ⟨#[48]⟩]); refine (natural_Mul.calls _ _ _ _ _ m1 (hG.below hbw)).mono ?_; rintro e v ⟨rfl, h⟩; have hbw := bthen hbw h)
    | (go_at_call_of 18 (#[Value.string b, Value.string ⟨#[48]⟩]); refine (natural_Mul.calls _ _ _ _ _ m2 (hG.below hbw)).mono ?_; rintro e v ⟨rfl, h⟩; have hbw := bthen hbw h)
    | (go_at_call_of 15 (#[Value.string r, Value.string s]); refine (natural_Compare.calls _ _ _ _ _ c6).mono ?_; rintro e v ⟨rfl, h⟩; have hbw := bthen hbw h))
  go_ret
  exact ⟨rfl, hbw⟩

theorem ord3ca (a b c d p q r s : ByteArray) (h2 m k l : Int) (w : World) (hG : GOK w)
    (i1 : natural_Is.f a = some true) (i2 : natural_Is.f b = some true) (i3 : natural_Is.f c = some true) (c1 : natural_Compare.f a b = some (0, 0)) (c2 : natural_Compare.f b a = some (0, 0)) (c3 : natural_Compare.f b c = some ((-1), 0)) (c4 : natural_Compare.f a c = some ((-1), 0)) (s1 : natural_Sub.f a b = some (d, 0)) (a1 : natural_Add.f a c = some (p, 0)) (a2 : natural_Add.f b c = some (q, 0)) (c5 : natural_Compare.f p q = some (0, k)) (m1 : natural_Mul.f a c = some (r, 2)) (m2 : natural_Mul.f b c = some (s, h2)) (c6 : natural_Compare.f r s = some (m, l)) (hc : c ≠ ⟨#[48]⟩) :
    Calls Tryd.prog 6 #[.string a, .string b, .string c] w fun e w' => e = .returned (.bool true) ∧ Below w.heap.size w w' := by
  have hc' : (c.toList == [48]) = false := by rw [beq_eq_false_iff_ne]; exact fun h => hc (tl.1 (by rw [h, Lib.toList_data]))
  go_enter Tryd.func6, Tryd.ntmps6
  go_wp2_with (first
    | (go_at_call 11; refine (headCB _ hG).mono ?_; rintro e w1 ⟨rfl, hb1⟩; have hbw := hb1)
    | (go_at_call_of 14 (#[Value.string a]); refine (natural_Is.calls _ _ _ i1).mono ?_; rintro e v ⟨rfl, h⟩; have hbw := bthen hbw h)
    | (go_at_call_of 14 (#[Value.string b]); refine (natural_Is.calls _ _ _ i2).mono ?_; rintro e v ⟨rfl, h⟩; have hbw := bthen hbw h)
    | (go_at_call_of 14 (#[Value.string c]); refine (natural_Is.calls _ _ _ i3).mono ?_; rintro e v ⟨rfl, h⟩; have hbw := bthen hbw h)
    | (go_at_call_of 15 (#[Value.string a, Value.string b]); refine (natural_Compare.calls _ _ _ _ _ c1).mono ?_; rintro e v ⟨rfl, h⟩; have hbw := bthen hbw h)
    | (go_at_call_of 15 (#[Value.string b, Value.string a]); refine (natural_Compare.calls _ _ _ _ _ c2).mono ?_; rintro e v ⟨rfl, h⟩; have hbw := bthen hbw h)
    | (go_at_call_of 15 (#[Value.string b, Value.string c]); refine (natural_Compare.calls _ _ _ _ _ c3).mono ?_; rintro e v ⟨rfl, h⟩; have hbw := bthen hbw h)
    | (go_at_call_of 15 (#[Value.string a, Value.string c]); refine (natural_Compare.calls _ _ _ _ _ c4).mono ?_; rintro e v ⟨rfl, h⟩; have hbw := bthen hbw h)
    | (go_at_call_of 20 (#[Value.string a, Value.string b]); refine (natural_Sub.calls _ _ _ _ _ s1 (hG.below hbw)).mono ?_; rintro e v ⟨rfl, h⟩; have hbw := bthen hbw h)
    | (go_at_call_of 19 (#[Value.string a, Value.string c]); refine (natural_Add.calls _ _ _ _ _ a1 (hG.below hbw)).mono ?_; rintro e v ⟨rfl, h⟩; have hbw := bthen hbw h)
    | (go_at_call_of 19 (#[Value.string b, Value.string c]); refine (natural_Add.calls _ _ _ _ _ a2 (hG.below hbw)).mono ?_; rintro e v ⟨rfl, h⟩; have hbw := bthen hbw h)
    | (go_at_call_of 15 (#[Value.string p, Value.string q]); refine (natural_Compare.calls _ _ _ _ _ c5).mono ?_; rintro e v ⟨rfl, h⟩; have hbw := bthen hbw h)
    | (go_at_call_of 18 (#[Value.string a, Value.string c]); refine (natural_Mul.calls _ _ _ _ _ m1 (hG.below hbw)).mono ?_; rintro e v ⟨rfl, h⟩; have hbw := bthen hbw h)
    | (go_at_call_of 18 (#[Value.string b, Value.string c]); refine (natural_Mul.calls _ _ _ _ _ m2 (hG.below hbw)).mono ?_; rintro e v ⟨rfl, h⟩; have hbw := bthen hbw h)
    | (go_at_call_of 15 (#[Value.string r, Value.string s]); refine (natural_Compare.calls _ _ _ _ _ c6).mono ?_; rintro e v ⟨rfl, h⟩; have hbw := bthen hbw h))
  go_ret
  exact ⟨rfl, hbw⟩

theorem ord3cb (a b c d p q r s : ByteArray) (m k l : Int) (w : World) (hG : GOK w)
    (i1 : natural_Is.f a = some true) (i2 : natural_Is.f b = some true) (i3 : natural_Is.f c = some true) (c1 : natural_Compare.f a b = some (0, 0)) (c2 : natural_Compare.f b a = some (0, 0)) (c3 : natural_Compare.f b c = some ((-1), 0)) (c4 : natural_Compare.f a c = some ((-1), 0)) (s1 : natural_Sub.f a b = some (d, 0)) (a1 : natural_Add.f a c = some (p, 0)) (a2 : natural_Add.f b c = some (q, 0)) (c5 : natural_Compare.f p q = some (0, k)) (m1 : natural_Mul.f a c = some (r, 0)) (m2 : natural_Mul.f b c = some (s, 2)) (c6 : natural_Compare.f r s = some (m, l)) (hc : c ≠ ⟨#[48]⟩) :
    Calls Tryd.prog 6 #[.string a, .string b, .string c] w fun e w' => e = .returned (.bool true) ∧ Below w.heap.size w w' := by
  have hc' : (c.toList == [48]) = false := by rw [beq_eq_false_iff_ne]; exact fun h => hc (tl.1 (by rw [h, Lib.toList_data]))
  go_enter Tryd.func6, Tryd.ntmps6
  go_wp2_with (first
    | (go_at_call 11; refine (headCB _ hG).mono ?_; rintro e w1 ⟨rfl, hb1⟩; have hbw := hb1)
    | (go_at_call_of 14 (#[Value.string a]); refine (natural_Is.calls _ _ _ i1).mono ?_; rintro e v ⟨rfl, h⟩; have hbw := bthen hbw h)
    | (go_at_call_of 14 (#[Value.string b]); refine (natural_Is.calls _ _ _ i2).mono ?_; rintro e v ⟨rfl, h⟩; have hbw := bthen hbw h)
    | (go_at_call_of 14 (#[Value.string c]); refine (natural_Is.calls _ _ _ i3).mono ?_; rintro e v ⟨rfl, h⟩; have hbw := bthen hbw h)
    | (go_at_call_of 15 (#[Value.string a, Value.string b]); refine (natural_Compare.calls _ _ _ _ _ c1).mono ?_; rintro e v ⟨rfl, h⟩; have hbw := bthen hbw h)
    | (go_at_call_of 15 (#[Value.string b, Value.string a]); refine (natural_Compare.calls _ _ _ _ _ c2).mono ?_; rintro e v ⟨rfl, h⟩; have hbw := bthen hbw h)
    | (go_at_call_of 15 (#[Value.string b, Value.string c]); refine (natural_Compare.calls _ _ _ _ _ c3).mono ?_; rintro e v ⟨rfl, h⟩; have hbw := bthen hbw h)
    | (go_at_call_of 15 (#[Value.string a, Value.string c]); refine (natural_Compare.calls _ _ _ _ _ c4).mono ?_; rintro e v ⟨rfl, h⟩; have hbw := bthen hbw h)
    | (go_at_call_of 20 (#[Value.string a, Value.string b]); refine (natural_Sub.calls _ _ _ _ _ s1 (hG.below hbw)).mono ?_; rintro e v ⟨rfl, h⟩; have hbw := bthen hbw h)
    | (go_at_call_of 19 (#[Value.string a, Value.string c]); refine (natural_Add.calls _ _ _ _ _ a1 (hG.below hbw)).mono ?_; rintro e v ⟨rfl, h⟩; have hbw := bthen hbw h)
    | (go_at_call_of 19 (#[Value.string b, Value.string c]); refine (natural_Add.calls _ _ _ _ _ a2 (hG.below hbw)).mono ?_; rintro e v ⟨rfl, h⟩; have hbw := bthen hbw h)
    | (go_at_call_of 15 (#[Value.string p, Value.string q]); refine (natural_Compare.calls _ _ _ _ _ c5).mono ?_; rintro e v ⟨rfl, h⟩; have hbw := bthen hbw h)
    | (go_at_call_of 18 (#[Value.string a, Value.string c]); refine (natural_Mul.calls _ _ _ _ _ m1 (hG.below hbw)).mono ?_; rintro e v ⟨rfl, h⟩; have hbw := bthen hbw h)
    | (go_at_call_of 18 (#[Value.string b, Value.string c]); refine (natural_Mul.calls _ _ _ _ _ m2 (hG.below hbw)).mono ?_; rintro e v ⟨rfl, h⟩; have hbw := bthen hbw h)
    | (go_at_call_of 15 (#[Value.string r, Value.string s]); refine (natural_Compare.calls _ _ _ _ _ c6).mono ?_; rintro e v ⟨rfl, h⟩; have hbw := bthen hbw h))
  go_ret
  exact ⟨rfl, hbw⟩

theorem ord3cc (a b c d p q r s : ByteArray) (k l : Int) (w : World) (hG : GOK w)
    (i1 : natural_Is.f a = some true) (i2 : natural_Is.f b = some true) (i3 : natural_Is.f c = some true) (c1 : natural_Compare.f a b = some (0, 0)) (c2 : natural_Compare.f b a = some (0, 0)) (c3 : natural_Compare.f b c = some ((-1), 0)) (c4 : natural_Compare.f a c = some ((-1), 0)) (s1 : natural_Sub.f a b = some (d, 0)) (a1 : natural_Add.f a c = some (p, 0)) (a2 : natural_Add.f b c = some (q, 0)) (c5 : natural_Compare.f p q = some (0, k)) (m1 : natural_Mul.f a c = some (r, 0)) (m2 : natural_Mul.f b c = some (s, 0)) (c6 : natural_Compare.f r s = some (0, l)) (hc : c ≠ ⟨#[48]⟩) :
    Calls Tryd.prog 6 #[.string a, .string b, .string c] w fun e w' => e = .returned (.bool true) ∧ Below w.heap.size w w' := by
  have hc' : (c.toList == [48]) = false := by rw [beq_eq_false_iff_ne]; exact fun h => hc (tl.1 (by rw [h, Lib.toList_data]))
  go_enter Tryd.func6, Tryd.ntmps6
  go_wp2_with (first
    | (go_at_call 11; refine (headCB _ hG).mono ?_; rintro e w1 ⟨rfl, hb1⟩; have hbw := hb1)
    | (go_at_call_of 14 (#[Value.string a]); refine (natural_Is.calls _ _ _ i1).mono ?_; rintro e v ⟨rfl, h⟩; have hbw := bthen hbw h)
    | (go_at_call_of 14 (#[Value.string b]); refine (natural_Is.calls _ _ _ i2).mono ?_; rintro e v ⟨rfl, h⟩; have hbw := bthen hbw h)
    | (go_at_call_of 14 (#[Value.string c]); refine (natural_Is.calls _ _ _ i3).mono ?_; rintro e v ⟨rfl, h⟩; have hbw := bthen hbw h)
    | (go_at_call_of 15 (#[Value.string a, Value.string b]); refine (natural_Compare.calls _ _ _ _ _ c1).mono ?_; rintro e v ⟨rfl, h⟩; have hbw := bthen hbw h)
    | (go_at_call_of 15 (#[Value.string b, Value.string a]); refine (natural_Compare.calls _ _ _ _ _ c2).mono ?_; rintro e v ⟨rfl, h⟩; have hbw := bthen hbw h)
    | (go_at_call_of 15 (#[Value.string b, Value.string c]); refine (natural_Compare.calls _ _ _ _ _ c3).mono ?_; rintro e v ⟨rfl, h⟩; have hbw := bthen hbw h)
    | (go_at_call_of 15 (#[Value.string a, Value.string c]); refine (natural_Compare.calls _ _ _ _ _ c4).mono ?_; rintro e v ⟨rfl, h⟩; have hbw := bthen hbw h)
    | (go_at_call_of 20 (#[Value.string a, Value.string b]); refine (natural_Sub.calls _ _ _ _ _ s1 (hG.below hbw)).mono ?_; rintro e v ⟨rfl, h⟩; have hbw := bthen hbw h)
    | (go_at_call_of 19 (#[Value.string a, Value.string c]); refine (natural_Add.calls _ _ _ _ _ a1 (hG.below hbw)).mono ?_; rintro e v ⟨rfl, h⟩; have hbw := bthen hbw h)
    | (go_at_call_of 19 (#[Value.string b, Value.string c]); refine (natural_Add.calls _ _ _ _ _ a2 (hG.below hbw)).mono ?_; rintro e v ⟨rfl, h⟩; have hbw := bthen hbw h)
    | (go_at_call_of 15 (#[Value.string p, Value.string q]); refine (natural_Compare.calls _ _ _ _ _ c5).mono ?_; rintro e v ⟨rfl, h⟩; have hbw := bthen hbw h)
    | (go_at_call_of 18 (#[Value.string a, Value.string c]); refine (natural_Mul.calls _ _ _ _ _ m1 (hG.below hbw)).mono ?_; rintro e v ⟨rfl, h⟩; have hbw := bthen hbw h)
    | (go_at_call_of 18 (#[Value.string b, Value.string c]); refine (natural_Mul.calls _ _ _ _ _ m2 (hG.below hbw)).mono ?_; rintro e v ⟨rfl, h⟩; have hbw := bthen hbw h)
    | (go_at_call_of 15 (#[Value.string r, Value.string s]); refine (natural_Compare.calls _ _ _ _ _ c6).mono ?_; rintro e v ⟨rfl, h⟩; have hbw := bthen hbw h))
  go_ret
  exact ⟨rfl, hbw⟩

theorem ord4az (a b d p q r s : ByteArray) (f2 n g2 h2 m k l : Int) (w : World) (hG : GOK w)
    (i1 : natural_Is.f a = some true) (i2 : natural_Is.f b = some true) (i3 : natural_Is.f ⟨#[48]⟩ = some true) (c1 : natural_Compare.f a b = some (0, 0)) (c2 : natural_Compare.f b a = some (0, 0)) (c3 : natural_Compare.f b ⟨#[48]⟩ = some (0, 0)) (c4 : natural_Compare.f a ⟨#[48]⟩ = some (0, 0)) (s1 : natural_Sub.f a b = some (d, 0)) (a1 : natural_Add.f a ⟨#[48]⟩ = some (p, 2)) (a2 : natural_Add.f b ⟨#[48]⟩ = some (q, f2)) (c5 : natural_Compare.f p q = some (n, k)) (m1 : natural_Mul.f a ⟨#[48]⟩ = some (r, g2)) (m2 : natural_Mul.f b ⟨#[48]⟩ = some (s, h2)) (c6 : natural_Compare.f r s = some (m, l)) :
    Calls Tryd.prog 6 #[.string a, .string b, .string ⟨#[48]⟩] w fun e w' => e = .returned (.bool true) ∧ Below w.heap.size w w' := by
  go_enter Tryd.func6, Tryd.ntmps6
  go_wp2_with (first
    | (go_at_call 11; refine (headCB _ hG).mono ?_; rintro e w1 ⟨rfl, hb1⟩; have hbw := hb1)
    | (go_at_call_of 14 (#[Value.string a]); refine (natural_Is.calls _ _ _ i1).mono ?_; rintro e v ⟨rfl, h⟩; have hbw := bthen hbw h)
    | (go_at_call_of 14 (#[Value.string b]); refine (natural_Is.calls _ _ _ i2).mono ?_; rintro e v ⟨rfl, h⟩; have hbw := bthen hbw h)
    | (go_at_call_of 14 (#[Value.string ⟨#[48]⟩]); refine (natural_Is.calls _ _ _ i3).mono ?_; rintro e v ⟨rfl, h⟩; have hbw := bthen hbw h)
    | (go_at_call_of 15 (#[Value.string a, Value.string b]); refine (natural_Compare.calls _ _ _ _ _ c1).mono ?_; rintro e v ⟨rfl, h⟩; have hbw := bthen hbw h)
    | (go_at_call_of 15 (#[Value.string b, Value.string a]); refine (natural_Compare.calls _ _ _ _ _ c2).mono ?_; rintro e v ⟨rfl, h⟩; have hbw := bthen hbw h)
    | (go_at_call_of 15 (#[Value.string b, Value.string ⟨#[48]⟩]); refine (natural_Compare.calls _ _ _ _ _ c3).mono ?_; rintro e v ⟨rfl, h⟩; have hbw := bthen hbw h)
    | (go_at_call_of 15 (#[Value.string a, Value.string ⟨#[48]⟩]); refine (natural_Compare.calls _ _ _ _ _ c4).mono ?_; rintro e v ⟨rfl, h⟩; have hbw := bthen hbw h)
    | (go_at_call_of 20 (#[Value.string a, Value.string b]); refine (natural_Sub.calls _ _ _ _ _ s1 (hG.below hbw)).mono ?_; rintro e v ⟨rfl, h⟩; have hbw := bthen hbw h)
    | (go_at_call_of 19 (#[Value.string a, Value.string ⟨#[48]⟩]); refine (natural_Add.calls _ _ _ _ _ a1 (hG.below hbw)).mono ?_; rintro e v ⟨rfl, h⟩; have hbw := bthen hbw h)
    | (go_at_call_of 19 (#[Value.string b, Value.string ⟨#[48]⟩]); refine (natural_Add.calls _ _ _ _ _ a2 (hG.below hbw)).mono ?_; rintro e v ⟨rfl, h⟩; have hbw := bthen hbw h)
    | (go_at_call_of 15 (#[Value.string p, Value.string q]); refine (natural_Compare.calls _ _ _ _ _ c5).mono ?_; rintro e v ⟨rfl, h⟩; have hbw := bthen hbw h)
    | (go_at_call_of 18 (#[Value.string a, Value.string ⟨#[48]⟩]); refine (natural_Mul.calls _ _ _ _ _ m1 (hG.below hbw)).mono ?_; rintro e v ⟨rfl, h⟩; have hbw := bthen hbw h)
    | (go_at_call_of 18 (#[Value.string b, Value.string ⟨#[48]⟩]); refine (natural_Mul.calls _ _ _ _ _ m2 (hG.below hbw)).mono ?_; rintro e v ⟨rfl, h⟩; have hbw := bthen hbw h)
    | (go_at_call_of 15 (#[Value.string r, Value.string s]); refine (natural_Compare.calls _ _ _ _ _ c6).mono ?_; rintro e v ⟨rfl, h⟩; have hbw := bthen hbw h))
  go_ret
  exact ⟨rfl, hbw⟩

theorem ord4aa (a b c d p q r s : ByteArray) (f2 n h2 m k l : Int) (w : World) (hG : GOK w)
    (i1 : natural_Is.f a = some true) (i2 : natural_Is.f b = some true) (i3 : natural_Is.f c = some true) (c1 : natural_Compare.f a b = some (0, 0)) (c2 : natural_Compare.f b a = some (0, 0)) (c3 : natural_Compare.f b c = some (0, 0)) (c4 : natural_Compare.f a c = some (0, 0)) (s1 : natural_Sub.f a b = some (d, 0)) (a1 : natural_Add.f a c = some (p, 2)) (a2 : natural_Add.f b c = some (q, f2)) (c5 : natural_Compare.f p q = some (n, k)) (m1 : natural_Mul.f a c = some (r, 2)) (m2 : natural_Mul.f b c = some (s, h2)) (c6 : natural_Compare.f r s = some (m, l)) (hc : c ≠ ⟨#[48]⟩) :
    Calls Tryd.prog 6 #[.string a, .string b, .string c] w fun e w' => e = .returned (.bool true) ∧ Below w.heap.size w w' := by
  have hc' : (c.toList == [48]) = false := by rw [beq_eq_false_iff_ne]; exact fun h => hc (tl.1 (by rw [h, Lib.toList_data]))
  go_enter Tryd.func6, Tryd.ntmps6
  go_wp2_with (first
    | (go_at_call 11; refine (headCB _ hG).mono ?_; rintro e w1 ⟨rfl, hb1⟩; have hbw := hb1)
    | (go_at_call_of 14 (#[Value.string a]); refine (natural_Is.calls _ _ _ i1).mono ?_; rintro e v ⟨rfl, h⟩; have hbw := bthen hbw h)
    | (go_at_call_of 14 (#[Value.string b]); refine (natural_Is.calls _ _ _ i2).mono ?_; rintro e v ⟨rfl, h⟩; have hbw := bthen hbw h)
    | (go_at_call_of 14 (#[Value.string c]); refine (natural_Is.calls _ _ _ i3).mono ?_; rintro e v ⟨rfl, h⟩; have hbw := bthen hbw h)
    | (go_at_call_of 15 (#[Value.string a, Value.string b]); refine (natural_Compare.calls _ _ _ _ _ c1).mono ?_; rintro e v ⟨rfl, h⟩; have hbw := bthen hbw h)
    | (go_at_call_of 15 (#[Value.string b, Value.string a]); refine (natural_Compare.calls _ _ _ _ _ c2).mono ?_; rintro e v ⟨rfl, h⟩; have hbw := bthen hbw h)
    | (go_at_call_of 15 (#[Value.string b, Value.string c]); refine (natural_Compare.calls _ _ _ _ _ c3).mono ?_; rintro e v ⟨rfl, h⟩; have hbw := bthen hbw h)
    | (go_at_call_of 15 (#[Value.string a, Value.string c]); refine (natural_Compare.calls _ _ _ _ _ c4).mono ?_; rintro e v ⟨rfl, h⟩; have hbw := bthen hbw h)
    | (go_at_call_of 20 (#[Value.string a, Value.string b]); refine (natural_Sub.calls _ _ _ _ _ s1 (hG.below hbw)).mono ?_; rintro e v ⟨rfl, h⟩; have hbw := bthen hbw h)
    | (go_at_call_of 19 (#[Value.string a, Value.string c]); refine (natural_Add.calls _ _ _ _ _ a1 (hG.below hbw)).mono ?_; rintro e v ⟨rfl, h⟩; have hbw := bthen hbw h)
    | (go_at_call_of 19 (#[Value.string b, Value.string c]); refine (natural_Add.calls _ _ _ _ _ a2 (hG.below hbw)).mono ?_; rintro e v ⟨rfl, h⟩; have hbw := bthen hbw h)
    | (go_at_call_of 15 (#[Value.string p, Value.string q]); refine (natural_Compare.calls _ _ _ _ _ c5).mono ?_; rintro e v ⟨rfl, h⟩; have hbw := bthen hbw h)
    | (go_at_call_of 18 (#[Value.string a, Value.string c]); refine (natural_Mul.calls _ _ _ _ _ m1 (hG.below hbw)).mono ?_; rintro e v ⟨rfl, h⟩; have hbw := bthen hbw h)
    | (go_at_call_of 18 (#[Value.string b, Value.string c]); refine (natural_Mul.calls _ _ _ _ _ m2 (hG.below hbw)).mono ?_; rintro e v ⟨rfl, h⟩; have hbw := bthen hbw h)
    | (go_at_call_of 15 (#[Value.string r, Value.string s]); refine (natural_Compare.calls _ _ _ _ _ c6).mono ?_; rintro e v ⟨rfl, h⟩; have hbw := bthen hbw h))
  go_ret
  exact ⟨rfl, hbw⟩

theorem ord4ab (a b c d p q r s : ByteArray) (f2 n m k l : Int) (w : World) (hG : GOK w)
    (i1 : natural_Is.f a = some true) (i2 : natural_Is.f b = some true) (i3 : natural_Is.f c = some true) (c1 : natural_Compare.f a b = some (0, 0)) (c2 : natural_Compare.f b a = some (0, 0)) (c3 : natural_Compare.f b c = some (0, 0)) (c4 : natural_Compare.f a c = some (0, 0)) (s1 : natural_Sub.f a b = some (d, 0)) (a1 : natural_Add.f a c = some (p, 2)) (a2 : natural_Add.f b c = some (q, f2)) (c5 : natural_Compare.f p q = some (n, k)) (m1 : natural_Mul.f a c = some (r, 0)) (m2 : natural_Mul.f b c = some (s, 2)) (c6 : natural_Compare.f r s = some (m, l)) (hc : c ≠ ⟨#[48]⟩) :
    Calls Tryd.prog 6 #[.string a, .string b, .string c] w fun e w' => e = .returned (.bool true) ∧ Below w.heap.size w w' := by
  have hc' : (c.toList == [48]) = false := by rw [beq_eq_false_iff_ne]; exact fun h => hc (tl.1 (by rw [h, Lib.toList_data]))
  go_enter Tryd.func6, Tryd.ntmps6
  go_wp2_with (first
    | (go_at_call 11; refine (headCB _ hG).mono ?_; rintro e w1 ⟨rfl, hb1⟩; have hbw := hb1)
    | (go_at_call_of 14 (#[Value.string a]); refine (natural_Is.calls _ _ _ i1).mono ?_; rintro e v ⟨rfl, h⟩; have hbw := bthen hbw h)
    | (go_at_call_of 14 (#[Value.string b]); refine (natural_Is.calls _ _ _ i2).mono ?_; rintro e v ⟨rfl, h⟩; have hbw := bthen hbw h)
    | (go_at_call_of 14 (#[Value.string c]); refine (natural_Is.calls _ _ _ i3).mono ?_; rintro e v ⟨rfl, h⟩; have hbw := bthen hbw h)
    | (go_at_call_of 15 (#[Value.string a, Value.string b]); refine (natural_Compare.calls _ _ _ _ _ c1).mono ?_; rintro e v ⟨rfl, h⟩; have hbw := bthen hbw h)
    | (go_at_call_of 15 (#[Value.string b, Value.string a]); refine (natural_Compare.calls _ _ _ _ _ c2).mono ?_; rintro e v ⟨rfl, h⟩; have hbw := bthen hbw h)
    | (go_at_call_of 15 (#[Value.string b, Value.string c]); refine (natural_Compare.calls _ _ _ _ _ c3).mono ?_; rintro e v ⟨rfl, h⟩; have hbw := bthen hbw h)
    | (go_at_call_of 15 (#[Value.string a, Value.string c]); refine (natural_Compare.calls _ _ _ _ _ c4).mono ?_; rintro e v ⟨rfl, h⟩; have hbw := bthen hbw h)
    | (go_at_call_of 20 (#[Value.string a, Value.string b]); refine (natural_Sub.calls _ _ _ _ _ s1 (hG.below hbw)).mono ?_; rintro e v ⟨rfl, h⟩; have hbw := bthen hbw h)
    | (go_at_call_of 19 (#[Value.string a, Value.string c]); refine (natural_Add.calls _ _ _ _ _ a1 (hG.below hbw)).mono ?_; rintro e v ⟨rfl, h⟩; have hbw := bthen hbw h)
    | (go_at_call_of 19 (#[Value.string b, Value.string c]); refine (natural_Add.calls _ _ _ _ _ a2 (hG.below hbw)).mono ?_; rintro e v ⟨rfl, h⟩; have hbw := bthen hbw h)
    | (go_at_call_of 15 (#[Value.string p, Value.string q]); refine (natural_Compare.calls _ _ _ _ _ c5).mono ?_; rintro e v ⟨rfl, h⟩; have hbw := bthen hbw h)
    | (go_at_call_of 18 (#[Value.string a, Value.string c]); refine (natural_Mul.calls _ _ _ _ _ m1 (hG.below hbw)).mono ?_; rintro e v ⟨rfl, h⟩; have hbw := bthen hbw h)
    | (go_at_call_of 18 (#[Value.string b, Value.string c]); refine (natural_Mul.calls _ _ _ _ _ m2 (hG.below hbw)).mono ?_; rintro e v ⟨rfl, h⟩; have hbw := bthen hbw h)
    | (go_at_call_of 15 (#[Value.string r, Value.string s]); refine (natural_Compare.calls _ _ _ _ _ c6).mono ?_; rintro e v ⟨rfl, h⟩; have hbw := bthen hbw h))
  go_ret
  exact ⟨rfl, hbw⟩

theorem ord4ac (a b c d p q r s : ByteArray) (f2 n k l : Int) (w : World) (hG : GOK w)
    (i1 : natural_Is.f a = some true) (i2 : natural_Is.f b = some true) (i3 : natural_Is.f c = some true) (c1 : natural_Compare.f a b = some (0, 0)) (c2 : natural_Compare.f b a = some (0, 0)) (c3 : natural_Compare.f b c = some (0, 0)) (c4 : natural_Compare.f a c = some (0, 0)) (s1 : natural_Sub.f a b = some (d, 0)) (a1 : natural_Add.f a c = some (p, 2)) (a2 : natural_Add.f b c = some (q, f2)) (c5 : natural_Compare.f p q = some (n, k)) (m1 : natural_Mul.f a c = some (r, 0)) (m2 : natural_Mul.f b c = some (s, 0)) (c6 : natural_Compare.f r s = some (0, l)) (hc : c ≠ ⟨#[48]⟩) :
    Calls Tryd.prog 6 #[.string a, .string b, .string c] w fun e w' => e = .returned (.bool true) ∧ Below w.heap.size w w' := by
  have hc' : (c.toList == [48]) = false := by rw [beq_eq_false_iff_ne]; exact fun h => hc (tl.1 (by rw [h, Lib.toList_data]))
  go_enter Tryd.func6, Tryd.ntmps6
  go_wp2_with (first
    | (go_at_call 11; refine (headCB _ hG).mono ?_; rintro e w1 ⟨rfl, hb1⟩; have hbw := hb1)
    | (go_at_call_of 14 (#[Value.string a]); refine (natural_Is.calls _ _ _ i1).mono ?_; rintro e v ⟨rfl, h⟩; have hbw := bthen hbw h)
    | (go_at_call_of 14 (#[Value.string b]); refine (natural_Is.calls _ _ _ i2).mono ?_; rintro e v ⟨rfl, h⟩; have hbw := bthen hbw h)
    | (go_at_call_of 14 (#[Value.string c]); refine (natural_Is.calls _ _ _ i3).mono ?_; rintro e v ⟨rfl, h⟩; have hbw := bthen hbw h)
    | (go_at_call_of 15 (#[Value.string a, Value.string b]); refine (natural_Compare.calls _ _ _ _ _ c1).mono ?_; rintro e v ⟨rfl, h⟩; have hbw := bthen hbw h)
    | (go_at_call_of 15 (#[Value.string b, Value.string a]); refine (natural_Compare.calls _ _ _ _ _ c2).mono ?_; rintro e v ⟨rfl, h⟩; have hbw := bthen hbw h)
    | (go_at_call_of 15 (#[Value.string b, Value.string c]); refine (natural_Compare.calls _ _ _ _ _ c3).mono ?_; rintro e v ⟨rfl, h⟩; have hbw := bthen hbw h)
    | (go_at_call_of 15 (#[Value.string a, Value.string c]); refine (natural_Compare.calls _ _ _ _ _ c4).mono ?_; rintro e v ⟨rfl, h⟩; have hbw := bthen hbw h)
    | (go_at_call_of 20 (#[Value.string a, Value.string b]); refine (natural_Sub.calls _ _ _ _ _ s1 (hG.below hbw)).mono ?_; rintro e v ⟨rfl, h⟩; have hbw := bthen hbw h)
    | (go_at_call_of 19 (#[Value.string a, Value.string c]); refine (natural_Add.calls _ _ _ _ _ a1 (hG.below hbw)).mono ?_; rintro e v ⟨rfl, h⟩; have hbw := bthen hbw h)
    | (go_at_call_of 19 (#[Value.string b, Value.string c]); refine (natural_Add.calls _ _ _ _ _ a2 (hG.below hbw)).mono ?_; rintro e v ⟨rfl, h⟩; have hbw := bthen hbw h)
    | (go_at_call_of 15 (#[Value.string p, Value.string q]); refine (natural_Compare.calls _ _ _ _ _ c5).mono ?_; rintro e v ⟨rfl, h⟩; have hbw := bthen hbw h)
    | (go_at_call_of 18 (#[Value.string a, Value.string c]); refine (natural_Mul.calls _ _ _ _ _ m1 (hG.below hbw)).mono ?_; rintro e v ⟨rfl, h⟩; have hbw := bthen hbw h)
    | (go_at_call_of 18 (#[Value.string b, Value.string c]); refine (natural_Mul.calls _ _ _ _ _ m2 (hG.below hbw)).mono ?_; rintro e v ⟨rfl, h⟩; have hbw := bthen hbw h)
    | (go_at_call_of 15 (#[Value.string r, Value.string s]); refine (natural_Compare.calls _ _ _ _ _ c6).mono ?_; rintro e v ⟨rfl, h⟩; have hbw := bthen hbw h))
  go_ret
  exact ⟨rfl, hbw⟩

theorem ord4bz (a b d p q r s : ByteArray) (n g2 h2 m k l : Int) (w : World) (hG : GOK w)
    (i1 : natural_Is.f a = some true) (i2 : natural_Is.f b = some true) (i3 : natural_Is.f ⟨#[48]⟩ = some true) (c1 : natural_Compare.f a b = some (0, 0)) (c2 : natural_Compare.f b a = some (0, 0)) (c3 : natural_Compare.f b ⟨#[48]⟩ = some (0, 0)) (c4 : natural_Compare.f a ⟨#[48]⟩ = some (0, 0)) (s1 : natural_Sub.f a b = some (d, 0)) (a1 : natural_Add.f a ⟨#[48]⟩ = some (p, 0)) (a2 : natural_Add.f b ⟨#[48]⟩ = some (q, 2)) (c5 : natural_Compare.f p q = some (n, k)) (m1 : natural_Mul.f a ⟨#[48]⟩ = some (r, g2)) (m2 : natural_Mul.f b ⟨#[48]⟩ = some (s, h2)) (c6 : natural_Compare.f r s = some (m, l)) :
    Calls Tryd.prog 6 #[.string a, .string b, .string ⟨#[48]⟩] w fun e w' => e = .returned (.bool true) ∧ Below w.heap.size w w' := by
  go_enter Tryd.func6, Tryd.ntmps6
  go_wp2_with (first
    | (go_at_call 11; refine (headCB _ hG).mono ?_; rintro e w1 ⟨rfl, hb1⟩; have hbw := hb1)
    | (go_at_call_of 14 (#[Value.string a]); refine (natural_Is.calls _ _ _ i1).mono ?_; rintro e v ⟨rfl, h⟩; have hbw := bthen hbw h)
    | (go_at_call_of 14 (#[Value.string b]); refine (natural_Is.calls _ _ _ i2).mono ?_; rintro e v ⟨rfl, h⟩; have hbw := bthen hbw h)
    | (go_at_call_of 14 (#[Value.string ⟨#[48]⟩]); refine (natural_Is.calls _ _ _ i3).mono ?_; rintro e v ⟨rfl, h⟩; have hbw := bthen hbw h)
    | (go_at_call_of 15 (#[Value.string a, Value.string b]); refine (natural_Compare.calls _ _ _ _ _ c1).mono ?_; rintro e v ⟨rfl, h⟩; have hbw := bthen hbw h)
    | (go_at_call_of 15 (#[Value.string b, Value.string a]); refine (natural_Compare.calls _ _ _ _ _ c2).mono ?_; rintro e v ⟨rfl, h⟩; have hbw := bthen hbw h)
    | (go_at_call_of 15 (#[Value.string b, Value.string ⟨#[48]⟩]); refine (natural_Compare.calls _ _ _ _ _ c3).mono ?_; rintro e v ⟨rfl, h⟩; have hbw := bthen hbw h)
    | (go_at_call_of 15 (#[Value.string a, Value.string ⟨#[48]⟩]); refine (natural_Compare.calls _ _ _ _ _ c4).mono ?_; rintro e v ⟨rfl, h⟩; have hbw := bthen hbw h)
    | (go_at_call_of 20 (#[Value.string a, Value.string b]); refine (natural_Sub.calls _ _ _ _ _ s1 (hG.below hbw)).mono ?_; rintro e v ⟨rfl, h⟩; have hbw := bthen hbw h)
    | (go_at_call_of 19 (#[Value.string a, Value.string ⟨#[48]⟩]); refine (natural_Add.calls _ _ _ _ _ a1 (hG.below hbw)).mono ?_; rintro e v ⟨rfl, h⟩; have hbw := bthen hbw h)
    | (go_at_call_of 19 (#[Value.string b, Value.string ⟨#[48]⟩]); refine (natural_Add.calls _ _ _ _ _ a2 (hG.below hbw)).mono ?_; rintro e v ⟨rfl, h⟩; have hbw := bthen hbw h)
    | (go_at_call_of 15 (#[Value.string p, Value.string q]); refine (natural_Compare.calls _ _ _ _ _ c5).mono ?_; rintro e v ⟨rfl, h⟩; have hbw := bthen hbw h)
    | (go_at_call_of 18 (#[Value.string a, Value.string ⟨#[48]⟩]); refine (natural_Mul.calls _ _ _ _ _ m1 (hG.below hbw)).mono ?_; rintro e v ⟨rfl, h⟩; have hbw := bthen hbw h)
    | (go_at_call_of 18 (#[Value.string b, Value.string ⟨#[48]⟩]); refine (natural_Mul.calls _ _ _ _ _ m2 (hG.below hbw)).mono ?_; rintro e v ⟨rfl, h⟩; have hbw := bthen hbw h)
    | (go_at_call_of 15 (#[Value.string r, Value.string s]); refine (natural_Compare.calls _ _ _ _ _ c6).mono ?_; rintro e v ⟨rfl, h⟩; have hbw := bthen hbw h))
  go_ret
  exact ⟨rfl, hbw⟩

theorem ord4ba (a b c d p q r s : ByteArray) (n h2 m k l : Int) (w : World) (hG : GOK w)
    (i1 : natural_Is.f a = some true) (i2 : natural_Is.f b = some true) (i3 : natural_Is.f c = some true) (c1 : natural_Compare.f a b = some (0, 0)) (c2 : natural_Compare.f b a = some (0, 0)) (c3 : natural_Compare.f b c = some (0, 0)) (c4 : natural_Compare.f a c = some (0, 0)) (s1 : natural_Sub.f a b = some (d, 0)) (a1 : natural_Add.f a c = some (p, 0)) (a2 : natural_Add.f b c = some (q, 2)) (c5 : natural_Compare.f p q = some (n, k)) (m1 : natural_Mul.f a c = some (r, 2)) (m2 : natural_Mul.f b c = some (s, h2)) (c6 : natural_Compare.f r s = some (m, l)) (hc : c ≠ ⟨#[48]⟩) :
    Calls Tryd.prog 6 #[.string a, .string b, .string c] w fun e w' => e = .returned (.bool true) ∧ Below w.heap.size w w' := by
  have hc' : (c.toList == [48]) = false := by rw [beq_eq_false_iff_ne]; exact fun h => hc (tl.1 (by rw [h, Lib.toList_data]))
  go_enter Tryd.func6, Tryd.ntmps6
  go_wp2_with (first
    | (go_at_call 11; refine (headCB _ hG).mono ?_; rintro e w1 ⟨rfl, hb1⟩; have hbw := hb1)
    | (go_at_call_of 14 (#[Value.string a]); refine (natural_Is.calls _ _ _ i1).mono ?_; rintro e v ⟨rfl, h⟩; have hbw := bthen hbw h)
    | (go_at_call_of 14 (#[Value.string b]); refine (natural_Is.calls _ _ _ i2).mono ?_; rintro e v ⟨rfl, h⟩; have hbw := bthen hbw h)
    | (go_at_call_of 14 (#[Value.string c]); refine (natural_Is.calls _ _ _ i3).mono ?_; rintro e v ⟨rfl, h⟩; have hbw := bthen hbw h)
    | (go_at_call_of 15 (#[Value.string a, Value.string b]); refine (natural_Compare.calls _ _ _ _ _ c1).mono ?_; rintro e v ⟨rfl, h⟩; have hbw := bthen hbw h)
    | (go_at_call_of 15 (#[Value.string b, Value.string a]); refine (natural_Compare.calls _ _ _ _ _ c2).mono ?_; rintro e v ⟨rfl, h⟩; have hbw := bthen hbw h)
    | (go_at_call_of 15 (#[Value.string b, Value.string c]); refine (natural_Compare.calls _ _ _ _ _ c3).mono ?_; rintro e v ⟨rfl, h⟩; have hbw := bthen hbw h)
    | (go_at_call_of 15 (#[Value.string a, Value.string c]); refine (natural_Compare.calls _ _ _ _ _ c4).mono ?_; rintro e v ⟨rfl, h⟩; have hbw := bthen hbw h)
    | (go_at_call_of 20 (#[Value.string a, Value.string b]); refine (natural_Sub.calls _ _ _ _ _ s1 (hG.below hbw)).mono ?_; rintro e v ⟨rfl, h⟩; have hbw := bthen hbw h)
    | (go_at_call_of 19 (#[Value.string a, Value.string c]); refine (natural_Add.calls _ _ _ _ _ a1 (hG.below hbw)).mono ?_; rintro e v ⟨rfl, h⟩; have hbw := bthen hbw h)
    | (go_at_call_of 19 (#[Value.string b, Value.string c]); refine (natural_Add.calls _ _ _ _ _ a2 (hG.below hbw)).mono ?_; rintro e v ⟨rfl, h⟩; have hbw := bthen hbw h)
    | (go_at_call_of 15 (#[Value.string p, Value.string q]); refine (natural_Compare.calls _ _ _ _ _ c5).mono ?_; rintro e v ⟨rfl, h⟩; have hbw := bthen hbw h)
    | (go_at_call_of 18 (#[Value.string a, Value.string c]); refine (natural_Mul.calls _ _ _ _ _ m1 (hG.below hbw)).mono ?_; rintro e v ⟨rfl, h⟩; have hbw := bthen hbw h)
    | (go_at_call_of 18 (#[Value.string b, Value.string c]); refine (natural_Mul.calls _ _ _ _ _ m2 (hG.below hbw)).mono ?_; rintro e v ⟨rfl, h⟩; have hbw := bthen hbw h)
    | (go_at_call_of 15 (#[Value.string r, Value.string s]); refine (natural_Compare.calls _ _ _ _ _ c6).mono ?_; rintro e v ⟨rfl, h⟩; have hbw := bthen hbw h))
  go_ret
  exact ⟨rfl, hbw⟩

theorem ord4bb (a b c d p q r s : ByteArray) (n m k l : Int) (w : World) (hG : GOK w)
    (i1 : natural_Is.f a = some true) (i2 : natural_Is.f b = some true) (i3 : natural_Is.f c = some true) (c1 : natural_Compare.f a b = some (0, 0)) (c2 : natural_Compare.f b a = some (0, 0)) (c3 : natural_Compare.f b c = some (0, 0)) (c4 : natural_Compare.f a c = some (0, 0)) (s1 : natural_Sub.f a b = some (d, 0)) (a1 : natural_Add.f a c = some (p, 0)) (a2 : natural_Add.f b c = some (q, 2)) (c5 : natural_Compare.f p q = some (n, k)) (m1 : natural_Mul.f a c = some (r, 0)) (m2 : natural_Mul.f b c = some (s, 2)) (c6 : natural_Compare.f r s = some (m, l)) (hc : c ≠ ⟨#[48]⟩) :
    Calls Tryd.prog 6 #[.string a, .string b, .string c] w fun e w' => e = .returned (.bool true) ∧ Below w.heap.size w w' := by
  have hc' : (c.toList == [48]) = false := by rw [beq_eq_false_iff_ne]; exact fun h => hc (tl.1 (by rw [h, Lib.toList_data]))
  go_enter Tryd.func6, Tryd.ntmps6
  go_wp2_with (first
    | (go_at_call 11; refine (headCB _ hG).mono ?_; rintro e w1 ⟨rfl, hb1⟩; have hbw := hb1)
    | (go_at_call_of 14 (#[Value.string a]); refine (natural_Is.calls _ _ _ i1).mono ?_; rintro e v ⟨rfl, h⟩; have hbw := bthen hbw h)
    | (go_at_call_of 14 (#[Value.string b]); refine (natural_Is.calls _ _ _ i2).mono ?_; rintro e v ⟨rfl, h⟩; have hbw := bthen hbw h)
    | (go_at_call_of 14 (#[Value.string c]); refine (natural_Is.calls _ _ _ i3).mono ?_; rintro e v ⟨rfl, h⟩; have hbw := bthen hbw h)
    | (go_at_call_of 15 (#[Value.string a, Value.string b]); refine (natural_Compare.calls _ _ _ _ _ c1).mono ?_; rintro e v ⟨rfl, h⟩; have hbw := bthen hbw h)
    | (go_at_call_of 15 (#[Value.string b, Value.string a]); refine (natural_Compare.calls _ _ _ _ _ c2).mono ?_; rintro e v ⟨rfl, h⟩; have hbw := bthen hbw h)
    | (go_at_call_of 15 (#[Value.string b, Value.string c]); refine (natural_Compare.calls _ _ _ _ _ c3).mono ?_; rintro e v ⟨rfl, h⟩; have hbw := bthen hbw h)
    | (go_at_call_of 15 (#[Value.string a, Value.string c]); refine (natural_Compare.calls _ _ _ _ _ c4).mono ?_; rintro e v ⟨rfl, h⟩; have hbw := bthen hbw h)
    | (go_at_call_of 20 (#[Value.string a, Value.string b]); refine (natural_Sub.calls _ _ _ _ _ s1 (hG.below hbw)).mono ?_; rintro e v ⟨rfl, h⟩; have hbw := bthen hbw h)
    | (go_at_call_of 19 (#[Value.string a, Value.string c]); refine (natural_Add.calls _ _ _ _ _ a1 (hG.below hbw)).mono ?_; rintro e v ⟨rfl, h⟩; have hbw := bthen hbw h)
    | (go_at_call_of 19 (#[Value.string b, Value.string c]); refine (natural_Add.calls _ _ _ _ _ a2 (hG.below hbw)).mono ?_; rintro e v ⟨rfl, h⟩; have hbw := bthen hbw h)
    | (go_at_call_of 15 (#[Value.string p, Value.string q]); refine (natural_Compare.calls _ _ _ _ _ c5).mono ?_; rintro e v ⟨rfl, h⟩; have hbw := bthen hbw h)
    | (go_at_call_of 18 (#[Value.string a, Value.string c]); refine (natural_Mul.calls _ _ _ _ _ m1 (hG.below hbw)).mono ?_; rintro e v ⟨rfl, h⟩; have hbw := bthen hbw h)
    | (go_at_call_of 18 (#[Value.string b, Value.string c]); refine (natural_Mul.calls _ _ _ _ _ m2 (hG.below hbw)).mono ?_; rintro e v ⟨rfl, h⟩; have hbw := bthen hbw h)
    | (go_at_call_of 15 (#[Value.string r, Value.string s]); refine (natural_Compare.calls _ _ _ _ _ c6).mono ?_; rintro e v ⟨rfl, h⟩; have hbw := bthen hbw h))
  go_ret
  exact ⟨rfl, hbw⟩

theorem ord4bc (a b c d p q r s : ByteArray) (n k l : Int) (w : World) (hG : GOK w)
    (i1 : natural_Is.f a = some true) (i2 : natural_Is.f b = some true) (i3 : natural_Is.f c = some true) (c1 : natural_Compare.f a b = some (0, 0)) (c2 : natural_Compare.f b a = some (0, 0)) (c3 : natural_Compare.f b c = some (0, 0)) (c4 : natural_Compare.f a c = some (0, 0)) (s1 : natural_Sub.f a b = some (d, 0)) (a1 : natural_Add.f a c = some (p, 0)) (a2 : natural_Add.f b c = some (q, 2)) (c5 : natural_Compare.f p q = some (n, k)) (m1 : natural_Mul.f a c = some (r, 0)) (m2 : natural_Mul.f b c = some (s, 0)) (c6 : natural_Compare.f r s = some (0, l)) (hc : c ≠ ⟨#[48]⟩) :
    Calls Tryd.prog 6 #[.string a, .string b, .string c] w fun e w' => e = .returned (.bool true) ∧ Below w.heap.size w w' := by
  have hc' : (c.toList == [48]) = false := by rw [beq_eq_false_iff_ne]; exact fun h => hc (tl.1 (by rw [h, Lib.toList_data]))
  go_enter Tryd.func6, Tryd.ntmps6
  go_wp2_with (first
    | (go_at_call 11; refine (headCB _ hG).mono ?_; rintro e w1 ⟨rfl, hb1⟩; have hbw := hb1)
    | (go_at_call_of 14 (#[Value.string a]); refine (natural_Is.calls _ _ _ i1).mono ?_; rintro e v ⟨rfl, h⟩; have hbw := bthen hbw h)
    | (go_at_call_of 14 (#[Value.string b]); refine (natural_Is.calls _ _ _ i2).mono ?_; rintro e v ⟨rfl, h⟩; have hbw := bthen hbw h)
    | (go_at_call_of 14 (#[Value.string c]); refine (natural_Is.calls _ _ _ i3).mono ?_; rintro e v ⟨rfl, h⟩; have hbw := bthen hbw h)
    | (go_at_call_of 15 (#[Value.string a, Value.string b]); refine (natural_Compare.calls _ _ _ _ _ c1).mono ?_; rintro e v ⟨rfl, h⟩; have hbw := bthen hbw h)
    | (go_at_call_of 15 (#[Value.string b, Value.string a]); refine (natural_Compare.calls _ _ _ _ _ c2).mono ?_; rintro e v ⟨rfl, h⟩; have hbw := bthen hbw h)
    | (go_at_call_of 15 (#[Value.string b, Value.string c]); refine (natural_Compare.calls _ _ _ _ _ c3).mono ?_; rintro e v ⟨rfl, h⟩; have hbw := bthen hbw h)
    | (go_at_call_of 15 (#[Value.string a, Value.string c]); refine (natural_Compare.calls _ _ _ _ _ c4).mono ?_; rintro e v ⟨rfl, h⟩; have hbw := bthen hbw h)
    | (go_at_call_of 20 (#[Value.string a, Value.string b]); refine (natural_Sub.calls _ _ _ _ _ s1 (hG.below hbw)).mono ?_; rintro e v ⟨rfl, h⟩; have hbw := bthen hbw h)
    | (go_at_call_of 19 (#[Value.string a, Value.string c]); refine (natural_Add.calls _ _ _ _ _ a1 (hG.below hbw)).mono ?_; rintro e v ⟨rfl, h⟩; have hbw := bthen hbw h)
    | (go_at_call_of 19 (#[Value.string b, Value.string c]); refine (natural_Add.calls _ _ _ _ _ a2 (hG.below hbw)).mono ?_; rintro e v ⟨rfl, h⟩; have hbw := bthen hbw h)
    | (go_at_call_of 15 (#[Value.string p, Value.string q]); refine (natural_Compare.calls _ _ _ _ _ c5).mono ?_; rintro e v ⟨rfl, h⟩; have hbw := bthen hbw h)
    | (go_at_call_of 18 (#[Value.string a, Value.string c]); refine (natural_Mul.calls _ _ _ _ _ m1 (hG.below hbw)).mono ?_; rintro e v ⟨rfl, h⟩; have hbw := bthen hbw h)
    | (go_at_call_of 18 (#[Value.string b, Value.string c]); refine (natural_Mul.calls _ _ _ _ _ m2 (hG.below hbw)).mono ?_; rintro e v ⟨rfl, h⟩; have hbw := bthen hbw h)
    | (go_at_call_of 15 (#[Value.string r, Value.string s]); refine (natural_Compare.calls _ _ _ _ _ c6).mono ?_; rintro e v ⟨rfl, h⟩; have hbw := bthen hbw h))
  go_ret
  exact ⟨rfl, hbw⟩

theorem ord4cz (a b d p q r s : ByteArray) (g2 h2 m k l : Int) (w : World) (hG : GOK w)
    (i1 : natural_Is.f a = some true) (i2 : natural_Is.f b = some true) (i3 : natural_Is.f ⟨#[48]⟩ = some true) (c1 : natural_Compare.f a b = some (0, 0)) (c2 : natural_Compare.f b a = some (0, 0)) (c3 : natural_Compare.f b ⟨#[48]⟩ = some (0, 0)) (c4 : natural_Compare.f a ⟨#[48]⟩ = some (0, 0)) (s1 : natural_Sub.f a b = some (d, 0)) (a1 : natural_Add.f a ⟨#[48]⟩ = some (p, 0)) (a2 : natural_Add.f b ⟨#[48]⟩ = some (q, 0)) (c5 : natural_Compare.f p q = some (0, k)) (m1 : natural_Mul.f a ⟨#[48]⟩ = some (r, g2)) (m2 : natural_Mul.f b ⟨#[48]⟩ = some (s, h2)) (c6 : natural_Compare.f r s = some (m, l)) :
    Calls Tryd.prog 6 #[.string a, .string b, .string ⟨#[48]⟩] w fun e w' => e = .returned (.bool true) ∧ Below w.heap.size w w' := by
  go_enter Tryd.func6, Tryd.ntmps6
  go_wp2_with (first
    | (go_at_call 11; refine (headCB _ hG).mono ?_; rintro e w1 ⟨rfl, hb1⟩; have hbw := hb1)
    | (go_at_call_of 14 (#[Value.string a]); refine (natural_Is.calls _ _ _ i1).mono ?_; rintro e v ⟨rfl, h⟩; have hbw := bthen hbw h)
    | (go_at_call_of 14 (#[Value.string b]); refine (natural_Is.calls _ _ _ i2).mono ?_; rintro e v ⟨rfl, h⟩; have hbw := bthen hbw h)
    | (go_at_call_of 14 (#[Value.string ⟨#[48]⟩]); refine (natural_Is.calls _ _ _ i3).mono ?_; rintro e v ⟨rfl, h⟩; have hbw := bthen hbw h)
    | (go_at_call_of 15 (#[Value.string a, Value.string b]); refine (natural_Compare.calls _ _ _ _ _ c1).mono ?_; rintro e v ⟨rfl, h⟩; have hbw := bthen hbw h)
    | (go_at_call_of 15 (#[Value.string b, Value.string a]); refine (natural_Compare.calls _ _ _ _ _ c2).mono ?_; rintro e v ⟨rfl, h⟩; have hbw := bthen hbw h)
    | (go_at_call_of 15 (#[Value.string b, Value.string ⟨#[48]⟩]); refine (natural_Compare.calls _ _ _ _ _ c3).mono ?_; rintro e v ⟨rfl, h⟩; have hbw := bthen hbw h)
    | (go_at_call_of 15 (#[Value.string a, Value.string ⟨#[48]⟩]); refine (natural_Compare.calls _ _ _ _ _ c4).mono ?_; rintro e v ⟨rfl, h⟩; have hbw := bthen hbw h)
    | (go_at_call_of 20 (#[Value.string a, Value.string b]); refine (natural_Sub.calls _ _ _ _ _ s1 (hG.below hbw)).mono ?_; rintro e v ⟨rfl, h⟩; have hbw := bthen hbw h)
    | (go_at_call_of 19 (#[Value.string a, Value.string ⟨#[48]⟩]); refine (natural_Add.calls _ _ _ _ _ a1 (hG.below hbw)).mono ?_; rintro e v ⟨rfl, h⟩; have hbw := bthen hbw h)
    | (go_at_call_of 19 (#[Value.string b, Value.string ⟨#[48]⟩]); refine (natural_Add.calls _ _ _ _ _ a2 (hG.below hbw)).mono ?_; rintro e v ⟨rfl, h⟩; have hbw := bthen hbw h)
    | (go_at_call_of 15 (#[Value.string p, Value.string q]); refine (natural_Compare.calls _ _ _ _ _ c5).mono ?_; rintro e v ⟨rfl, h⟩; have hbw := bthen hbw h)
    | (go_at_call_of 18 (#[Value.string a, Value.string ⟨#[48]⟩]); refine (natural_Mul.calls _ _ _ _ _ m1 (hG.below hbw)).mono ?_; rintro e v ⟨rfl, h⟩; have hbw := bthen hbw h)
    | (go_at_call_of 18 (#[Value.string b, Value.string ⟨#[48]⟩]); refine (natural_Mul.calls _ _ _ _ _ m2 (hG.below hbw)).mono ?_; rintro e v ⟨rfl, h⟩; have hbw := bthen hbw h)
    | (go_at_call_of 15 (#[Value.string r, Value.string s]); refine (natural_Compare.calls _ _ _ _ _ c6).mono ?_; rintro e v ⟨rfl, h⟩; have hbw := bthen hbw h))
  go_ret
  exact ⟨rfl, hbw⟩

theorem ord4ca (a b c d p q r s : ByteArray) (h2 m k l : Int) (w : World) (hG : GOK w)
    (i1 : natural_Is.f a = some true) (i2 : natural_Is.f b = some true) (i3 : natural_Is.f c = some true) (c1 : natural_Compare.f a b = some (0, 0)) (c2 : natural_Compare.f b a = some (0, 0)) (c3 : natural_Compare.f b c = some (0, 0)) (c4 : natural_Compare.f a c = some (0, 0)) (s1 : natural_Sub.f a b = some (d, 0)) (a1 : natural_Add.f a c = some (p, 0)) (a2 : natural_Add.f b c = some (q, 0)) (c5 : natural_Compare.f p q = some (0, k)) (m1 : natural_Mul.f a c = some (r, 2)) (m2 : natural_Mul.f b c = some (s, h2)) (c6 : natural_Compare.f r s = some (m, l)) (hc : c ≠ ⟨#[48]⟩) :
    Calls Tryd.prog 6 #[.string a, .string b, .string c] w fun e w' => e = .returned (.bool true) ∧ Below w.heap.size w w' := by
  have hc' : (c.toList == [48]) = false := by rw [beq_eq_false_iff_ne]; exact fun h => hc (tl.1 (by rw [h, Lib.toList_data]))
  go_enter Tryd.func6, Tryd.ntmps6
  go_wp2_with (first
    | (go_at_call 11; refine (headCB _ hG).mono ?_; rintro e w1 ⟨rfl, hb1⟩; have hbw := hb1)
    | (go_at_call_of 14 (#[Value.string a]); refine (natural_Is.calls _ _ _ i1).mono ?_; rintro e v ⟨rfl, h⟩; have hbw := bthen hbw h)
    | (go_at_call_of 14 (#[Value.string b]); refine (natural_Is.calls _ _ _ i2).mono ?_; rintro e v ⟨rfl, h⟩; have hbw := bthen hbw h)
    | (go_at_call_of 14 (#[Value.string c]); refine (natural_Is.calls _ _ _ i3).mono ?_; rintro e v ⟨rfl, h⟩; have hbw := bthen hbw h)
    | (go_at_call_of 15 (#[Value.string a, Value.string b]); refine (natural_Compare.calls _ _ _ _ _ c1).mono ?_; rintro e v ⟨rfl, h⟩; have hbw := bthen hbw h)
    | (go_at_call_of 15 (#[Value.string b, Value.string a]); refine (natural_Compare.calls _ _ _ _ _ c2).mono ?_; rintro e v ⟨rfl, h⟩; have hbw := bthen hbw h)
    | (go_at_call_of 15 (#[Value.string b, Value.string c]); refine (natural_Compare.calls _ _ _ _ _ c3).mono ?_; rintro e v ⟨rfl, h⟩; have hbw := bthen hbw h)
    | (go_at_call_of 15 (#[Value.string a, Value.string c]); refine (natural_Compare.calls _ _ _ _ _ c4).mono ?_; rintro e v ⟨rfl, h⟩; have hbw := bthen hbw h)
    | (go_at_call_of 20 (#[Value.string a, Value.string b]); refine (natural_Sub.calls _ _ _ _ _ s1 (hG.below hbw)).mono ?_; rintro e v ⟨rfl, h⟩; have hbw := bthen hbw h)
    | (go_at_call_of 19 (#[Value.string a, Value.string c]); refine (natural_Add.calls _ _ _ _ _ a1 (hG.below hbw)).mono ?_; rintro e v ⟨rfl, h⟩; have hbw := bthen hbw h)
    | (go_at_call_of 19 (#[Value.string b, Value.string c]); refine (natural_Add.calls _ _ _ _ _ a2 (hG.below hbw)).mono ?_; rintro e v ⟨rfl, h⟩; have hbw := bthen hbw h)
    | (go_at_call_of 15 (#[Value.string p, Value.string q]); refine (natural_Compare.calls _ _ _ _ _ c5).mono ?_; rintro e v ⟨rfl, h⟩; have hbw := bthen hbw h)
    | (go_at_call_of 18 (#[Value.string a, Value.string c]); refine (natural_Mul.calls _ _ _ _ _ m1 (hG.below hbw)).mono ?_; rintro e v ⟨rfl, h⟩; have hbw := bthen hbw h)
    | (go_at_call_of 18 (#[Value.string b, Value.string c]); refine (natural_Mul.calls _ _ _ _ _ m2 (hG.below hbw)).mono ?_; rintro e v ⟨rfl, h⟩; have hbw := bthen hbw h)
    | (go_at_call_of 15 (#[Value.string r, Value.string s]); refine (natural_Compare.calls _ _ _ _ _ c6).mono ?_; rintro e v ⟨rfl, h⟩; have hbw := bthen hbw h))
  go_ret
  exact ⟨rfl, hbw⟩

theorem ord4cb (a b c d p q r s : ByteArray) (m k l : Int) (w : World) (hG : GOK w)
    (i1 : natural_Is.f a = some true) (i2 : natural_Is.f b = some true) (i3 : natural_Is.f c = some true) (c1 : natural_Compare.f a b = some (0, 0)) (c2 : natural_Compare.f b a = some (0, 0)) (c3 : natural_Compare.f b c = some (0, 0)) (c4 : natural_Compare.f a c = some (0, 0)) (s1 : natural_Sub.f a b = some (d, 0)) (a1 : natural_Add.f a c = some (p, 0)) (a2 : natural_Add.f b c = some (q, 0)) (c5 : natural_Compare.f p q = some (0, k)) (m1 : natural_Mul.f a c = some (r, 0)) (m2 : natural_Mul.f b c = some (s, 2)) (c6 : natural_Compare.f r s = some (m, l)) (hc : c ≠ ⟨#[48]⟩) :
    Calls Tryd.prog 6 #[.string a, .string b, .string c] w fun e w' => e = .returned (.bool true) ∧ Below w.heap.size w w' := by
  have hc' : (c.toList == [48]) = false := by rw [beq_eq_false_iff_ne]; exact fun h => hc (tl.1 (by rw [h, Lib.toList_data]))
  go_enter Tryd.func6, Tryd.ntmps6
  go_wp2_with (first
    | (go_at_call 11; refine (headCB _ hG).mono ?_; rintro e w1 ⟨rfl, hb1⟩; have hbw := hb1)
    | (go_at_call_of 14 (#[Value.string a]); refine (natural_Is.calls _ _ _ i1).mono ?_; rintro e v ⟨rfl, h⟩; have hbw := bthen hbw h)
    | (go_at_call_of 14 (#[Value.string b]); refine (natural_Is.calls _ _ _ i2).mono ?_; rintro e v ⟨rfl, h⟩; have hbw := bthen hbw h)
    | (go_at_call_of 14 (#[Value.string c]); refine (natural_Is.calls _ _ _ i3).mono ?_; rintro e v ⟨rfl, h⟩; have hbw := bthen hbw h)
    | (go_at_call_of 15 (#[Value.string a, Value.string b]); refine (natural_Compare.calls _ _ _ _ _ c1).mono ?_; rintro e v ⟨rfl, h⟩; have hbw := bthen hbw h)
    | (go_at_call_of 15 (#[Value.string b, Value.string a]); refine (natural_Compare.calls _ _ _ _ _ c2).mono ?_; rintro e v ⟨rfl, h⟩; have hbw := bthen hbw h)
    | (go_at_call_of 15 (#[Value.string b, Value.string c]); refine (natural_Compare.calls _ _ _ _ _ c3).mono ?_; rintro e v ⟨rfl, h⟩; have hbw := bthen hbw h)
    | (go_at_call_of 15 (#[Value.string a, Value.string c]); refine (natural_Compare.calls _ _ _ _ _ c4).mono ?_; rintro e v ⟨rfl, h⟩; have hbw := bthen hbw h)
    | (go_at_call_of 20 (#[Value.string a, Value.string b]); refine (natural_Sub.calls _ _ _ _ _ s1 (hG.below hbw)).mono ?_; rintro e v ⟨rfl, h⟩; have hbw := bthen hbw h)
    | (go_at_call_of 19 (#[Value.string a, Value.string c]); refine (natural_Add.calls _ _ _ _ _ a1 (hG.below hbw)).mono ?_; rintro e v ⟨rfl, h⟩; have hbw := bthen hbw h)
    | (go_at_call_of 19 (#[Value.string b, Value.string c]); refine (natural_Add.calls _ _ _ _ _ a2 (hG.below hbw)).mono ?_; rintro e v ⟨rfl, h⟩; have hbw := bthen hbw h)
    | (go_at_call_of 15 (#[Value.string p, Value.string q]); refine (natural_Compare.calls _ _ _ _ _ c5).mono ?_; rintro e v ⟨rfl, h⟩; have hbw := bthen hbw h)
    | (go_at_call_of 18 (#[Value.string a, Value.string c]); refine (natural_Mul.calls _ _ _ _ _ m1 (hG.below hbw)).mono ?_; rintro e v ⟨rfl, h⟩; have hbw := bthen hbw h)
    | (go_at_call_of 18 (#[Value.string b, Value.string c]); refine (natural_Mul.calls _ _ _ _ _ m2 (hG.below hbw)).mono ?_; rintro e v ⟨rfl, h⟩; have hbw := bthen hbw h)
    | (go_at_call_of 15 (#[Value.string r, Value.string s]); refine (natural_Compare.calls _ _ _ _ _ c6).mono ?_; rintro e v ⟨rfl, h⟩; have hbw := bthen hbw h))
  go_ret
  exact ⟨rfl, hbw⟩

theorem ord4cc (a b c d p q r s : ByteArray) (k l : Int) (w : World) (hG : GOK w)
    (i1 : natural_Is.f a = some true) (i2 : natural_Is.f b = some true) (i3 : natural_Is.f c = some true) (c1 : natural_Compare.f a b = some (0, 0)) (c2 : natural_Compare.f b a = some (0, 0)) (c3 : natural_Compare.f b c = some (0, 0)) (c4 : natural_Compare.f a c = some (0, 0)) (s1 : natural_Sub.f a b = some (d, 0)) (a1 : natural_Add.f a c = some (p, 0)) (a2 : natural_Add.f b c = some (q, 0)) (c5 : natural_Compare.f p q = some (0, k)) (m1 : natural_Mul.f a c = some (r, 0)) (m2 : natural_Mul.f b c = some (s, 0)) (c6 : natural_Compare.f r s = some (0, l)) (hc : c ≠ ⟨#[48]⟩) :
    Calls Tryd.prog 6 #[.string a, .string b, .string c] w fun e w' => e = .returned (.bool true) ∧ Below w.heap.size w w' := by
  have hc' : (c.toList == [48]) = false := by rw [beq_eq_false_iff_ne]; exact fun h => hc (tl.1 (by rw [h, Lib.toList_data]))
  go_enter Tryd.func6, Tryd.ntmps6
  go_wp2_with (first
    | (go_at_call 11; refine (headCB _ hG).mono ?_; rintro e w1 ⟨rfl, hb1⟩; have hbw := hb1)
    | (go_at_call_of 14 (#[Value.string a]); refine (natural_Is.calls _ _ _ i1).mono ?_; rintro e v ⟨rfl, h⟩; have hbw := bthen hbw h)
    | (go_at_call_of 14 (#[Value.string b]); refine (natural_Is.calls _ _ _ i2).mono ?_; rintro e v ⟨rfl, h⟩; have hbw := bthen hbw h)
    | (go_at_call_of 14 (#[Value.string c]); refine (natural_Is.calls _ _ _ i3).mono ?_; rintro e v ⟨rfl, h⟩; have hbw := bthen hbw h)
    | (go_at_call_of 15 (#[Value.string a, Value.string b]); refine (natural_Compare.calls _ _ _ _ _ c1).mono ?_; rintro e v ⟨rfl, h⟩; have hbw := bthen hbw h)
    | (go_at_call_of 15 (#[Value.string b, Value.string a]); refine (natural_Compare.calls _ _ _ _ _ c2).mono ?_; rintro e v ⟨rfl, h⟩; have hbw := bthen hbw h)
    | (go_at_call_of 15 (#[Value.string b, Value.string c]); refine (natural_Compare.calls _ _ _ _ _ c3).mono ?_; rintro e v ⟨rfl, h⟩; have hbw := bthen hbw h)
    | (go_at_call_of 15 (#[Value.string a, Value.string c]); refine (natural_Compare.calls _ _ _ _ _ c4).mono ?_; rintro e v ⟨rfl, h⟩; have hbw := bthen hbw h)
    | (go_at_call_of 20 (#[Value.string a, Value.string b]); refine (natural_Sub.calls _ _ _ _ _ s1 (hG.below hbw)).mono ?_; rintro e v ⟨rfl, h⟩; have hbw := bthen hbw h)
    | (go_at_call_of 19 (#[Value.string a, Value.string c]); refine (natural_Add.calls _ _ _ _ _ a1 (hG.below hbw)).mono ?_; rintro e v ⟨rfl, h⟩; have hbw := bthen hbw h)
    | (go_at_call_of 19 (#[Value.string b, Value.string c]); refine (natural_Add.calls _ _ _ _ _ a2 (hG.below hbw)).mono ?_; rintro e v ⟨rfl, h⟩; have hbw := bthen hbw h)
    | (go_at_call_of 15 (#[Value.string p, Value.string q]); refine (natural_Compare.calls _ _ _ _ _ c5).mono ?_; rintro e v ⟨rfl, h⟩; have hbw := bthen hbw h)
    | (go_at_call_of 18 (#[Value.string a, Value.string c]); refine (natural_Mul.calls _ _ _ _ _ m1 (hG.below hbw)).mono ?_; rintro e v ⟨rfl, h⟩; have hbw := bthen hbw h)
    | (go_at_call_of 18 (#[Value.string b, Value.string c]); refine (natural_Mul.calls _ _ _ _ _ m2 (hG.below hbw)).mono ?_; rintro e v ⟨rfl, h⟩; have hbw := bthen hbw h)
    | (go_at_call_of 15 (#[Value.string r, Value.string s]); refine (natural_Compare.calls _ _ _ _ _ c6).mono ?_; rintro e v ⟨rfl, h⟩; have hbw := bthen hbw h))
  go_ret
  exact ⟨rfl, hbw⟩
end Go.Proofs.YtdojfnjgipeogaaDoor
