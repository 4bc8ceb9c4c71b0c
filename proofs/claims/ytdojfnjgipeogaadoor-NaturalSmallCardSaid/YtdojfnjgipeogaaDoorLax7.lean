-- PRINTED by print.py (a twelfth state) out of the translation. Not trusted: Lean checks it.
import Derived.Test.YtdojfnjgipeogaaDoorLax0
import Derived.Test.YtdojfnjgipeogaaDoorLax1
namespace Go.Proofs.YtdojfnjgipeogaaDoor.La
open Go.RowKit Go.Proofs.YtdojfnjgipeogaaDoorW.PrintWords Go.Proofs.YtdojfnjgipeogaaDoorW.PrintLast Go.Proofs.YtdojfnjgipeogaaDoorW.PrintMore
attribute [local go_sem] max2_int min2_int max_two min_two max_three min_three max_four min_four   -- for this text's walks alone
set_option linter.unusedVariables false
set_option linter.unusedSimpArgs false

/-! ### customhouselaw04_NaturalSmall: function 10 -/
mutual
def customhouselaw04_NaturalSmall.j0 : Nat → Bool → Int → Int → ByteArray → ByteArray → Bool → Option (Bool)
  | 0, _, _, _, _, _, _ => none
  | k + 1, x5, x6, x7, x8, x9, x92 => if x92 = true then (some false) else ((natural_Sub.f x8 x9).bind fun bt264 => (if x6 ≥ x7 then (if bt264.2 = 0 then ((natural_Of.f (wrap64 (x6 - x7))).bind fun t266 => (if bt264.1.toList = t266.toList then (if x6 < x7 then (customhouselaw04_NaturalSmall.j1 k x5 x6 x7 x8 x9 (bt264.2 != 10)) else (customhouselaw04_NaturalSmall.j1 k x5 x6 x7 x8 x9 false)) else (customhouselaw04_NaturalSmall.j1 k x5 x6 x7 x8 x9 true))) else (customhouselaw04_NaturalSmall.j1 k x5 x6 x7 x8 x9 true)) else (if x6 < x7 then (customhouselaw04_NaturalSmall.j1 k x5 x6 x7 x8 x9 (bt264.2 != 10)) else (customhouselaw04_NaturalSmall.j1 k x5 x6 x7 x8 x9 false))))
def customhouselaw04_NaturalSmall.j1 : Nat → Bool → Int → Int → ByteArray → ByteArray → Bool → Option (Bool)
  | 0, _, _, _, _, _, _ => none
  | k + 1, x5, x6, x7, x8, x9, x122 => if x122 = true then (some false) else (if x7 = 0 then (some x5) else ((natural_Div.f x8 x9).bind fun bt267 => (customhouselaw04_NaturalSmall.l0 k x5 x6 x7 x8 x9 bt267.2.2 bt267.1 bt267.2.1 x6 x7)))
def customhouselaw04_NaturalSmall.l0 : Nat → Bool → Int → Int → ByteArray → ByteArray → Int → ByteArray → ByteArray → Int → Int → Option (Bool)
  | 0, _, _, _, _, _, _, _, _, _, _ => none
  | k + 1, x5, x6, x7, x8, x9, x13, x17, x18, x19, x20 => if x20 > 0 then (if x20 = 0 then (none) else (customhouselaw04_NaturalSmall.l0 k x5 x6 x7 x8 x9 x13 x17 x18 x20 (Int.tmod x19 x20))) else ((natural_Gcd.f x8 x9).bind fun bt270 => (if x5 = true then (if x13 = 0 then (if bt270.2 = 0 then (if x7 = 0 then (none) else ((natural_Of.f (wrap64 (Int.tdiv x6 x7))).bind fun t272 => (if x17.toList = t272.toList then ((natural_Of.f (Int.tmod x6 x7)).bind fun t273 => (if x18.toList = t273.toList then ((natural_Of.f x19).bind fun t274 => (some (bt270.1.toList == t274.toList))) else (some false))) else (some false)))) else (some false)) else (some false)) else (some false)))
end
def customhouselaw04_NaturalSmall.f (k : Nat) (a0 : Int) (a1 : Int) : Option (Bool) := (customhouselaw04_head.f k).bind fun t253 => ((natural_Of.f (wrap64 (a0 / 2))).bind fun t254 => ((natural_Of.f (wrap64 (a1 / 2))).bind fun t255 => ((natural_Add.f t254 t255).bind fun bt256 => ((natural_Mul.f t254 t255).bind fun bt258 => ((natural_Compare.f t254 t255).bind fun bt260 => (if bt256.2 = 0 then (if bt258.2 = 0 then (if bt260.2 = 0 then ((natural_Of.f (wrap64 ((wrap64 (a0 / 2)) + (wrap64 (a1 / 2))))).bind fun t262 => (if bt256.1.toList = t262.toList then ((natural_Of.f (wrap64 ((wrap64 (a0 / 2)) * (wrap64 (a1 / 2))))).bind fun t263 => (if bt258.1.toList = t263.toList then (if ((decide (bt260.1 < 0)) != (decide ((wrap64 (a0 / 2)) < (wrap64 (a1 / 2))))) = true then (customhouselaw04_NaturalSmall.j0 k t253 (wrap64 (a0 / 2)) (wrap64 (a1 / 2)) t254 t255 true) else (customhouselaw04_NaturalSmall.j0 k t253 (wrap64 (a0 / 2)) (wrap64 (a1 / 2)) t254 t255 ((decide (bt260.1 > 0)) != (decide ((wrap64 (a0 / 2)) > (wrap64 (a1 / 2))))))) else (customhouselaw04_NaturalSmall.j0 k t253 (wrap64 (a0 / 2)) (wrap64 (a1 / 2)) t254 t255 true))) else (customhouselaw04_NaturalSmall.j0 k t253 (wrap64 (a0 / 2)) (wrap64 (a1 / 2)) t254 t255 true))) else (customhouselaw04_NaturalSmall.j0 k t253 (wrap64 (a0 / 2)) (wrap64 (a1 / 2)) t254 t255 true)) else (customhouselaw04_NaturalSmall.j0 k t253 (wrap64 (a0 / 2)) (wrap64 (a1 / 2)) t254 t255 true)) else (customhouselaw04_NaturalSmall.j0 k t253 (wrap64 (a0 / 2)) (wrap64 (a1 / 2)) t254 t255 true)))))))
theorem customhouselaw04_NaturalSmall.mono_l : ∀ k, (∀ y0 y1 y2 y3 y4 y5, LeO (customhouselaw04_NaturalSmall.j0 k y0 y1 y2 y3 y4 y5) (customhouselaw04_NaturalSmall.j0 (k + 1) y0 y1 y2 y3 y4 y5)) ∧ (∀ y0 y1 y2 y3 y4 y5, LeO (customhouselaw04_NaturalSmall.j1 k y0 y1 y2 y3 y4 y5) (customhouselaw04_NaturalSmall.j1 (k + 1) y0 y1 y2 y3 y4 y5)) ∧ (∀ y0 y1 y2 y3 y4 y5 y6 y7 y8 y9, LeO (customhouselaw04_NaturalSmall.l0 k y0 y1 y2 y3 y4 y5 y6 y7 y8 y9) (customhouselaw04_NaturalSmall.l0 (k + 1) y0 y1 y2 y3 y4 y5 y6 y7 y8 y9))
  | 0 => ⟨fun _ _ _ _ _ _ r h => by simp [customhouselaw04_NaturalSmall.j0] at h, fun _ _ _ _ _ _ r h => by simp [customhouselaw04_NaturalSmall.j1] at h, fun _ _ _ _ _ _ _ _ _ _ r h => by simp [customhouselaw04_NaturalSmall.l0] at h⟩
  | k + 1 => by
    obtain ⟨ih0, ih1, ih2⟩ := customhouselaw04_NaturalSmall.mono_l k
    refine ⟨?_, ?_, ?_⟩
    · intro y0 y1 y2 y3 y4 y5
      unfold customhouselaw04_NaturalSmall.j0
      repeat' first
      | (with_reducible exact ih0 _ _ _ _ _ _)
      | (with_reducible exact ih1 _ _ _ _ _ _)
      | (with_reducible exact ih2 _ _ _ _ _ _ _ _ _ _)
      | (with_reducible exact customhouselaw04_head.mono _)
      | (with_reducible exact LeO.refl _)
      | (with_reducible exact LeO.none _)
      | (with_reducible refine LeO.ite ?_ ?_)
      | (with_reducible refine LeO.bind ?_ (fun _ => ?_))
      | exact ih0 _ _ _ _ _ _
      | exact ih1 _ _ _ _ _ _
      | exact ih2 _ _ _ _ _ _ _ _ _ _
      | exact customhouselaw04_head.mono _
      | exact LeO.none _
      | refine LeO.ite ?_ ?_
      | refine LeO.bind ?_ (fun _ => ?_)
    · intro y0 y1 y2 y3 y4 y5
      unfold customhouselaw04_NaturalSmall.j1
      repeat' first
      | (with_reducible exact ih0 _ _ _ _ _ _)
      | (with_reducible exact ih1 _ _ _ _ _ _)
      | (with_reducible exact ih2 _ _ _ _ _ _ _ _ _ _)
      | (with_reducible exact customhouselaw04_head.mono _)
      | (with_reducible exact LeO.refl _)
      | (with_reducible exact LeO.none _)
      | (with_reducible refine LeO.ite ?_ ?_)
      | (with_reducible refine LeO.bind ?_ (fun _ => ?_))
      | exact ih0 _ _ _ _ _ _
      | exact ih1 _ _ _ _ _ _
      | exact ih2 _ _ _ _ _ _ _ _ _ _
      | exact customhouselaw04_head.mono _
      | exact LeO.none _
      | refine LeO.ite ?_ ?_
      | refine LeO.bind ?_ (fun _ => ?_)
    · intro y0 y1 y2 y3 y4 y5 y6 y7 y8 y9
      unfold customhouselaw04_NaturalSmall.l0
      repeat' first
      | (with_reducible exact ih0 _ _ _ _ _ _)
      | (with_reducible exact ih1 _ _ _ _ _ _)
      | (with_reducible exact ih2 _ _ _ _ _ _ _ _ _ _)
      | (with_reducible exact customhouselaw04_head.mono _)
      | (with_reducible exact LeO.refl _)
      | (with_reducible exact LeO.none _)
      | (with_reducible refine LeO.ite ?_ ?_)
      | (with_reducible refine LeO.bind ?_ (fun _ => ?_))
      | exact ih0 _ _ _ _ _ _
      | exact ih1 _ _ _ _ _ _
      | exact ih2 _ _ _ _ _ _ _ _ _ _
      | exact customhouselaw04_head.mono _
      | exact LeO.none _
      | refine LeO.ite ?_ ?_
      | refine LeO.bind ?_ (fun _ => ?_)
theorem customhouselaw04_NaturalSmall.mono : ∀ a0 a1 k, LeO (customhouselaw04_NaturalSmall.f k a0 a1) (customhouselaw04_NaturalSmall.f (k + 1) a0 a1) := by
  intro a0 a1 k
  obtain ⟨ih0, ih1, ih2⟩ := customhouselaw04_NaturalSmall.mono_l k
  unfold customhouselaw04_NaturalSmall.f
  repeat' first
      | (with_reducible exact ih0 _ _ _ _ _ _)
      | (with_reducible exact ih1 _ _ _ _ _ _)
      | (with_reducible exact ih2 _ _ _ _ _ _ _ _ _ _)
      | (with_reducible exact customhouselaw04_head.mono _)
      | (with_reducible exact LeO.refl _)
      | (with_reducible exact LeO.none _)
      | (with_reducible refine LeO.ite ?_ ?_)
      | (with_reducible refine LeO.bind ?_ (fun _ => ?_))
      | exact ih0 _ _ _ _ _ _
      | exact ih1 _ _ _ _ _ _
      | exact ih2 _ _ _ _ _ _ _ _ _ _
      | exact customhouselaw04_head.mono _
      | exact LeO.none _
      | refine LeO.ite ?_ ?_
      | refine LeO.bind ?_ (fun _ => ?_)
set_option maxHeartbeats 8000000 in
set_option maxRecDepth 100000 in
theorem customhouselaw04_NaturalSmall.calls (k : Nat) (a0 : Int) (a1 : Int) (r : Bool) (w : World) (h : customhouselaw04_NaturalSmall.f k a0 a1 = some r) (hG : GOK w) :
    Calls Tryd.prog 10 #[.int .u32 a0, .int .u32 a1] w fun e w' => e = .returned (.bool r) ∧ Below w.heap.size w w' := by
  have HB := Aside0.mk (Below.refl w.heap.size w)
  have H : ((customhouselaw04_head.f k).bind fun t253 => ((natural_Of.f (wrap64 (a0 / 2))).bind fun t254 => ((natural_Of.f (wrap64 (a1 / 2))).bind fun t255 => ((natural_Add.f t254 t255).bind fun bt256 => ((natural_Mul.f t254 t255).bind fun bt258 => ((natural_Compare.f t254 t255).bind fun bt260 => (if bt256.2 = 0 then (if bt258.2 = 0 then (if bt260.2 = 0 then ((natural_Of.f (wrap64 ((wrap64 (a0 / 2)) + (wrap64 (a1 / 2))))).bind fun t262 => (if bt256.1.toList = t262.toList then ((natural_Of.f (wrap64 ((wrap64 (a0 / 2)) * (wrap64 (a1 / 2))))).bind fun t263 => (if bt258.1.toList = t263.toList then (if ((decide (bt260.1 < 0)) != (decide ((wrap64 (a0 / 2)) < (wrap64 (a1 / 2))))) = true then (customhouselaw04_NaturalSmall.j0 k t253 (wrap64 (a0 / 2)) (wrap64 (a1 / 2)) t254 t255 true) else (customhouselaw04_NaturalSmall.j0 k t253 (wrap64 (a0 / 2)) (wrap64 (a1 / 2)) t254 t255 ((decide (bt260.1 > 0)) != (decide ((wrap64 (a0 / 2)) > (wrap64 (a1 / 2))))))) else (customhouselaw04_NaturalSmall.j0 k t253 (wrap64 (a0 / 2)) (wrap64 (a1 / 2)) t254 t255 true))) else (customhouselaw04_NaturalSmall.j0 k t253 (wrap64 (a0 / 2)) (wrap64 (a1 / 2)) t254 t255 true))) else (customhouselaw04_NaturalSmall.j0 k t253 (wrap64 (a0 / 2)) (wrap64 (a1 / 2)) t254 t255 true)) else (customhouselaw04_NaturalSmall.j0 k t253 (wrap64 (a0 / 2)) (wrap64 (a1 / 2)) t254 t255 true)) else (customhouselaw04_NaturalSmall.j0 k t253 (wrap64 (a0 / 2)) (wrap64 (a1 / 2)) t254 t255 true)))))))) = some r := h
  clear h
  have HG := Aside0.mk hG
  clear hG
  replace H := Option.bind_eq_some_iff.mp H
  obtain ⟨t253, A30, H⟩ := H
  replace H : ((natural_Of.f (wrap64 (a0 / 2))).bind fun t254 => ((natural_Of.f (wrap64 (a1 / 2))).bind fun t255 => ((natural_Add.f t254 t255).bind fun bt256 => ((natural_Mul.f t254 t255).bind fun bt258 => ((natural_Compare.f t254 t255).bind fun bt260 => (if bt256.2 = 0 then (if bt258.2 = 0 then (if bt260.2 = 0 then ((natural_Of.f (wrap64 ((wrap64 (a0 / 2)) + (wrap64 (a1 / 2))))).bind fun t262 => (if bt256.1.toList = t262.toList then ((natural_Of.f (wrap64 ((wrap64 (a0 / 2)) * (wrap64 (a1 / 2))))).bind fun t263 => (if bt258.1.toList = t263.toList then (if ((decide (bt260.1 < 0)) != (decide ((wrap64 (a0 / 2)) < (wrap64 (a1 / 2))))) = true then (customhouselaw04_NaturalSmall.j0 k t253 (wrap64 (a0 / 2)) (wrap64 (a1 / 2)) t254 t255 true) else (customhouselaw04_NaturalSmall.j0 k t253 (wrap64 (a0 / 2)) (wrap64 (a1 / 2)) t254 t255 ((decide (bt260.1 > 0)) != (decide ((wrap64 (a0 / 2)) > (wrap64 (a1 / 2))))))) else (customhouselaw04_NaturalSmall.j0 k t253 (wrap64 (a0 / 2)) (wrap64 (a1 / 2)) t254 t255 true))) else (customhouselaw04_NaturalSmall.j0 k t253 (wrap64 (a0 / 2)) (wrap64 (a1 / 2)) t254 t255 true))) else (customhouselaw04_NaturalSmall.j0 k t253 (wrap64 (a0 / 2)) (wrap64 (a1 / 2)) t254 t255 true)) else (customhouselaw04_NaturalSmall.j0 k t253 (wrap64 (a0 / 2)) (wrap64 (a1 / 2)) t254 t255 true)) else (customhouselaw04_NaturalSmall.j0 k t253 (wrap64 (a0 / 2)) (wrap64 (a1 / 2)) t254 t255 true))))))) = some r := H
  have A3 := Aside0.mk A30
  clear A30
  replace H := Option.bind_eq_some_iff.mp H
  obtain ⟨t254, A40, H⟩ := H
  replace H : ((natural_Of.f (wrap64 (a1 / 2))).bind fun t255 => ((natural_Add.f t254 t255).bind fun bt256 => ((natural_Mul.f t254 t255).bind fun bt258 => ((natural_Compare.f t254 t255).bind fun bt260 => (if bt256.2 = 0 then (if bt258.2 = 0 then (if bt260.2 = 0 then ((natural_Of.f (wrap64 ((wrap64 (a0 / 2)) + (wrap64 (a1 / 2))))).bind fun t262 => (if bt256.1.toList = t262.toList then ((natural_Of.f (wrap64 ((wrap64 (a0 / 2)) * (wrap64 (a1 / 2))))).bind fun t263 => (if bt258.1.toList = t263.toList then (if ((decide (bt260.1 < 0)) != (decide ((wrap64 (a0 / 2)) < (wrap64 (a1 / 2))))) = true then (customhouselaw04_NaturalSmall.j0 k t253 (wrap64 (a0 / 2)) (wrap64 (a1 / 2)) t254 t255 true) else (customhouselaw04_NaturalSmall.j0 k t253 (wrap64 (a0 / 2)) (wrap64 (a1 / 2)) t254 t255 ((decide (bt260.1 > 0)) != (decide ((wrap64 (a0 / 2)) > (wrap64 (a1 / 2))))))) else (customhouselaw04_NaturalSmall.j0 k t253 (wrap64 (a0 / 2)) (wrap64 (a1 / 2)) t254 t255 true))) else (customhouselaw04_NaturalSmall.j0 k t253 (wrap64 (a0 / 2)) (wrap64 (a1 / 2)) t254 t255 true))) else (customhouselaw04_NaturalSmall.j0 k t253 (wrap64 (a0 / 2)) (wrap64 (a1 / 2)) t254 t255 true)) else (customhouselaw04_NaturalSmall.j0 k t253 (wrap64 (a0 / 2)) (wrap64 (a1 / 2)) t254 t255 true)) else (customhouselaw04_NaturalSmall.j0 k t253 (wrap64 (a0 / 2)) (wrap64 (a1 / 2)) t254 t255 true)))))) = some r := H
  have A4 := Aside0.mk A40
  clear A40
  replace H := Option.bind_eq_some_iff.mp H
  obtain ⟨t255, A50, H⟩ := H
  replace H : ((natural_Add.f t254 t255).bind fun bt256 => ((natural_Mul.f t254 t255).bind fun bt258 => ((natural_Compare.f t254 t255).bind fun bt260 => (if bt256.2 = 0 then (if bt258.2 = 0 then (if bt260.2 = 0 then ((natural_Of.f (wrap64 ((wrap64 (a0 / 2)) + (wrap64 (a1 / 2))))).bind fun t262 => (if bt256.1.toList = t262.toList then ((natural_Of.f (wrap64 ((wrap64 (a0 / 2)) * (wrap64 (a1 / 2))))).bind fun t263 => (if bt258.1.toList = t263.toList then (if ((decide (bt260.1 < 0)) != (decide ((wrap64 (a0 / 2)) < (wrap64 (a1 / 2))))) = true then (customhouselaw04_NaturalSmall.j0 k t253 (wrap64 (a0 / 2)) (wrap64 (a1 / 2)) t254 t255 true) else (customhouselaw04_NaturalSmall.j0 k t253 (wrap64 (a0 / 2)) (wrap64 (a1 / 2)) t254 t255 ((decide (bt260.1 > 0)) != (decide ((wrap64 (a0 / 2)) > (wrap64 (a1 / 2))))))) else (customhouselaw04_NaturalSmall.j0 k t253 (wrap64 (a0 / 2)) (wrap64 (a1 / 2)) t254 t255 true))) else (customhouselaw04_NaturalSmall.j0 k t253 (wrap64 (a0 / 2)) (wrap64 (a1 / 2)) t254 t255 true))) else (customhouselaw04_NaturalSmall.j0 k t253 (wrap64 (a0 / 2)) (wrap64 (a1 / 2)) t254 t255 true)) else (customhouselaw04_NaturalSmall.j0 k t253 (wrap64 (a0 / 2)) (wrap64 (a1 / 2)) t254 t255 true)) else (customhouselaw04_NaturalSmall.j0 k t253 (wrap64 (a0 / 2)) (wrap64 (a1 / 2)) t254 t255 true))))) = some r := H
  have A5 := Aside0.mk A50
  clear A50
  replace H := Option.bind_eq_some_iff.mp H
  obtain ⟨⟨t256, t257⟩, A60, H⟩ := H
  replace H : ((natural_Mul.f t254 t255).bind fun bt258 => ((natural_Compare.f t254 t255).bind fun bt260 => (if t257 = 0 then (if bt258.2 = 0 then (if bt260.2 = 0 then ((natural_Of.f (wrap64 ((wrap64 (a0 / 2)) + (wrap64 (a1 / 2))))).bind fun t262 => (if t256.toList = t262.toList then ((natural_Of.f (wrap64 ((wrap64 (a0 / 2)) * (wrap64 (a1 / 2))))).bind fun t263 => (if bt258.1.toList = t263.toList then (if ((decide (bt260.1 < 0)) != (decide ((wrap64 (a0 / 2)) < (wrap64 (a1 / 2))))) = true then (customhouselaw04_NaturalSmall.j0 k t253 (wrap64 (a0 / 2)) (wrap64 (a1 / 2)) t254 t255 true) else (customhouselaw04_NaturalSmall.j0 k t253 (wrap64 (a0 / 2)) (wrap64 (a1 / 2)) t254 t255 ((decide (bt260.1 > 0)) != (decide ((wrap64 (a0 / 2)) > (wrap64 (a1 / 2))))))) else (customhouselaw04_NaturalSmall.j0 k t253 (wrap64 (a0 / 2)) (wrap64 (a1 / 2)) t254 t255 true))) else (customhouselaw04_NaturalSmall.j0 k t253 (wrap64 (a0 / 2)) (wrap64 (a1 / 2)) t254 t255 true))) else (customhouselaw04_NaturalSmall.j0 k t253 (wrap64 (a0 / 2)) (wrap64 (a1 / 2)) t254 t255 true)) else (customhouselaw04_NaturalSmall.j0 k t253 (wrap64 (a0 / 2)) (wrap64 (a1 / 2)) t254 t255 true)) else (customhouselaw04_NaturalSmall.j0 k t253 (wrap64 (a0 / 2)) (wrap64 (a1 / 2)) t254 t255 true)))) = some r := H
  have A6 := Aside0.mk A60
  clear A60
  replace H := Option.bind_eq_some_iff.mp H
  obtain ⟨⟨t258, t259⟩, A70, H⟩ := H
  replace H : ((natural_Compare.f t254 t255).bind fun bt260 => (if t257 = 0 then (if t259 = 0 then (if bt260.2 = 0 then ((natural_Of.f (wrap64 ((wrap64 (a0 / 2)) + (wrap64 (a1 / 2))))).bind fun t262 => (if t256.toList = t262.toList then ((natural_Of.f (wrap64 ((wrap64 (a0 / 2)) * (wrap64 (a1 / 2))))).bind fun t263 => (if t258.toList = t263.toList then (if ((decide (bt260.1 < 0)) != (decide ((wrap64 (a0 / 2)) < (wrap64 (a1 / 2))))) = true then (customhouselaw04_NaturalSmall.j0 k t253 (wrap64 (a0 / 2)) (wrap64 (a1 / 2)) t254 t255 true) else (customhouselaw04_NaturalSmall.j0 k t253 (wrap64 (a0 / 2)) (wrap64 (a1 / 2)) t254 t255 ((decide (bt260.1 > 0)) != (decide ((wrap64 (a0 / 2)) > (wrap64 (a1 / 2))))))) else (customhouselaw04_NaturalSmall.j0 k t253 (wrap64 (a0 / 2)) (wrap64 (a1 / 2)) t254 t255 true))) else (customhouselaw04_NaturalSmall.j0 k t253 (wrap64 (a0 / 2)) (wrap64 (a1 / 2)) t254 t255 true))) else (customhouselaw04_NaturalSmall.j0 k t253 (wrap64 (a0 / 2)) (wrap64 (a1 / 2)) t254 t255 true)) else (customhouselaw04_NaturalSmall.j0 k t253 (wrap64 (a0 / 2)) (wrap64 (a1 / 2)) t254 t255 true)) else (customhouselaw04_NaturalSmall.j0 k t253 (wrap64 (a0 / 2)) (wrap64 (a1 / 2)) t254 t255 true))) = some r := H
  have A7 := Aside0.mk A70
  clear A70
  replace H := Option.bind_eq_some_iff.mp H
  obtain ⟨⟨t260, t261⟩, A80, H⟩ := H
  replace H : (if t257 = 0 then (if t259 = 0 then (if t261 = 0 then ((natural_Of.f (wrap64 ((wrap64 (a0 / 2)) + (wrap64 (a1 / 2))))).bind fun t262 => (if t256.toList = t262.toList then ((natural_Of.f (wrap64 ((wrap64 (a0 / 2)) * (wrap64 (a1 / 2))))).bind fun t263 => (if t258.toList = t263.toList then (if ((decide (t260 < 0)) != (decide ((wrap64 (a0 / 2)) < (wrap64 (a1 / 2))))) = true then (customhouselaw04_NaturalSmall.j0 k t253 (wrap64 (a0 / 2)) (wrap64 (a1 / 2)) t254 t255 true) else (customhouselaw04_NaturalSmall.j0 k t253 (wrap64 (a0 / 2)) (wrap64 (a1 / 2)) t254 t255 ((decide (t260 > 0)) != (decide ((wrap64 (a0 / 2)) > (wrap64 (a1 / 2))))))) else (customhouselaw04_NaturalSmall.j0 k t253 (wrap64 (a0 / 2)) (wrap64 (a1 / 2)) t254 t255 true))) else (customhouselaw04_NaturalSmall.j0 k t253 (wrap64 (a0 / 2)) (wrap64 (a1 / 2)) t254 t255 true))) else (customhouselaw04_NaturalSmall.j0 k t253 (wrap64 (a0 / 2)) (wrap64 (a1 / 2)) t254 t255 true)) else (customhouselaw04_NaturalSmall.j0 k t253 (wrap64 (a0 / 2)) (wrap64 (a1 / 2)) t254 t255 true)) else (customhouselaw04_NaturalSmall.j0 k t253 (wrap64 (a0 / 2)) (wrap64 (a1 / 2)) t254 t255 true)) = some r := H
  have A8 := Aside0.mk A80
  clear A80
  have HC9 := Aside0.mk H
  clear H
  go_enter Tryd.func10, Tryd.ntmps10
  go_upto_region 9 with (first | (go_at_call 11; (with_reducible refine (customhouselaw04_head.calls k  t253 _ A3.out ?side1).mono ?_); (case side1 => exact GOK.below HG.out (by repeat (first | (with_reducible first | exact HB.out | apply below_alloc | apply pw_below_drewN | apply below_drew1) | exact HB.out))); rintro e w10 ⟨rfl, hb⟩; have n0_ := Aside0.mk (below_step (by repeat (first | (with_reducible first | exact HB.out | apply below_alloc | apply pw_below_drewN | apply below_drew1) | exact HB.out)) hb); clear HB; have HB := n0_; clear n0_; (try clear hb); (try clear hb2); (try clear hk); (try clear hi)) | (go_at_call 12; (with_reducible refine (natural_Of.calls (wrap64 (a0 / 2)) t254 _ A4.out ?side1).mono ?_); (case side1 => exact GOK.below HG.out (by repeat (first | (with_reducible first | exact HB.out | apply below_alloc | apply pw_below_drewN | apply below_drew1) | exact HB.out))); rintro e w11 ⟨rfl, hb⟩; have n0_ := Aside0.mk (below_step (by repeat (first | (with_reducible first | exact HB.out | apply below_alloc | apply pw_below_drewN | apply below_drew1) | exact HB.out)) hb); clear HB; have HB := n0_; clear n0_; (try clear hb); (try clear hb2); (try clear hk); (try clear hi)) | (go_at_call 12; (with_reducible refine (natural_Of.calls (wrap64 (a1 / 2)) t255 _ A5.out ?side1).mono ?_); (case side1 => exact GOK.below HG.out (by repeat (first | (with_reducible first | exact HB.out | apply below_alloc | apply pw_below_drewN | apply below_drew1) | exact HB.out))); rintro e w12 ⟨rfl, hb⟩; have n0_ := Aside0.mk (below_step (by repeat (first | (with_reducible first | exact HB.out | apply below_alloc | apply pw_below_drewN | apply below_drew1) | exact HB.out)) hb); clear HB; have HB := n0_; clear n0_; (try clear hb); (try clear hb2); (try clear hk); (try clear hi)) | (go_at_call 19; (with_reducible refine (natural_Add.calls t254 t255 t256 t257 _ A6.out ?side1).mono ?_); (case side1 => exact GOK.below HG.out (by repeat (first | (with_reducible first | exact HB.out | apply below_alloc | apply pw_below_drewN | apply below_drew1) | exact HB.out))); rintro e w13 ⟨rfl, hb⟩; have n0_ := Aside0.mk (below_step (by repeat (first | (with_reducible first | exact HB.out | apply below_alloc | apply pw_below_drewN | apply below_drew1) | exact HB.out)) hb); clear HB; have HB := n0_; clear n0_; (try clear hb); (try clear hb2); (try clear hk); (try clear hi)) | (go_at_call 18; (with_reducible refine (natural_Mul.calls t254 t255 t258 t259 _ A7.out ?side1).mono ?_); (case side1 => exact GOK.below HG.out (by repeat (first | (with_reducible first | exact HB.out | apply below_alloc | apply pw_below_drewN | apply below_drew1) | exact HB.out))); rintro e w14 ⟨rfl, hb⟩; have n0_ := Aside0.mk (below_step (by repeat (first | (with_reducible first | exact HB.out | apply below_alloc | apply pw_below_drewN | apply below_drew1) | exact HB.out)) hb); clear HB; have HB := n0_; clear n0_; (try clear hb); (try clear hb2); (try clear hk); (try clear hi)) | (go_at_call 15; (with_reducible refine (natural_Compare.calls t254 t255 t260 t261 _ A8.out).mono ?_); rintro e w15 ⟨rfl, hb⟩; have n0_ := Aside0.mk (below_step (by repeat (first | (with_reducible first | exact HB.out | apply below_alloc | apply pw_below_drewN | apply below_drew1) | exact HB.out)) hb); clear HB; have HB := n0_; clear n0_; (try clear hb); (try clear hb2); (try clear hk); (try clear hi)))
  repeat (go_quiet (first | (go_at_call 11; (with_reducible refine (customhouselaw04_head.calls k  t253 _ A3.out ?side1).mono ?_); (case side1 => exact GOK.below HG.out (by repeat (first | (with_reducible first | exact HB.out | apply below_alloc | apply pw_below_drewN | apply below_drew1) | exact HB.out))); rintro e w10 ⟨rfl, hb⟩; have n0_ := Aside0.mk (below_step (by repeat (first | (with_reducible first | exact HB.out | apply below_alloc | apply pw_below_drewN | apply below_drew1) | exact HB.out)) hb); clear HB; have HB := n0_; clear n0_; (try clear hb); (try clear hb2); (try clear hk); (try clear hi)) | (go_at_call 12; (with_reducible refine (natural_Of.calls (wrap64 (a0 / 2)) t254 _ A4.out ?side1).mono ?_); (case side1 => exact GOK.below HG.out (by repeat (first | (with_reducible first | exact HB.out | apply below_alloc | apply pw_below_drewN | apply below_drew1) | exact HB.out))); rintro e w11 ⟨rfl, hb⟩; have n0_ := Aside0.mk (below_step (by repeat (first | (with_reducible first | exact HB.out | apply below_alloc | apply pw_below_drewN | apply below_drew1) | exact HB.out)) hb); clear HB; have HB := n0_; clear n0_; (try clear hb); (try clear hb2); (try clear hk); (try clear hi)) | (go_at_call 12; (with_reducible refine (natural_Of.calls (wrap64 (a1 / 2)) t255 _ A5.out ?side1).mono ?_); (case side1 => exact GOK.below HG.out (by repeat (first | (with_reducible first | exact HB.out | apply below_alloc | apply pw_below_drewN | apply below_drew1) | exact HB.out))); rintro e w12 ⟨rfl, hb⟩; have n0_ := Aside0.mk (below_step (by repeat (first | (with_reducible first | exact HB.out | apply below_alloc | apply pw_below_drewN | apply below_drew1) | exact HB.out)) hb); clear HB; have HB := n0_; clear n0_; (try clear hb); (try clear hb2); (try clear hk); (try clear hi)) | (go_at_call 19; (with_reducible refine (natural_Add.calls t254 t255 t256 t257 _ A6.out ?side1).mono ?_); (case side1 => exact GOK.below HG.out (by repeat (first | (with_reducible first | exact HB.out | apply below_alloc | apply pw_below_drewN | apply below_drew1) | exact HB.out))); rintro e w13 ⟨rfl, hb⟩; have n0_ := Aside0.mk (below_step (by repeat (first | (with_reducible first | exact HB.out | apply below_alloc | apply pw_below_drewN | apply below_drew1) | exact HB.out)) hb); clear HB; have HB := n0_; clear n0_; (try clear hb); (try clear hb2); (try clear hk); (try clear hi)) | (go_at_call 18; (with_reducible refine (natural_Mul.calls t254 t255 t258 t259 _ A7.out ?side1).mono ?_); (case side1 => exact GOK.below HG.out (by repeat (first | (with_reducible first | exact HB.out | apply below_alloc | apply pw_below_drewN | apply below_drew1) | exact HB.out))); rintro e w14 ⟨rfl, hb⟩; have n0_ := Aside0.mk (below_step (by repeat (first | (with_reducible first | exact HB.out | apply below_alloc | apply pw_below_drewN | apply below_drew1) | exact HB.out)) hb); clear HB; have HB := n0_; clear n0_; (try clear hb); (try clear hb2); (try clear hk); (try clear hi)) | (go_at_call 15; (with_reducible refine (natural_Compare.calls t254 t255 t260 t261 _ A8.out).mono ?_); rintro e w15 ⟨rfl, hb⟩; have n0_ := Aside0.mk (below_step (by repeat (first | (with_reducible first | exact HB.out | apply below_alloc | apply pw_below_drewN | apply below_drew1) | exact HB.out)) hb); clear HB; have HB := n0_; clear n0_; (try clear hb); (try clear hb2); (try clear hk); (try clear hi))); go_upto_region 9 with (first | (go_at_call 11; (with_reducible refine (customhouselaw04_head.calls k  t253 _ A3.out ?side1).mono ?_); (case side1 => exact GOK.below HG.out (by repeat (first | (with_reducible first | exact HB.out | apply below_alloc | apply pw_below_drewN | apply below_drew1) | exact HB.out))); rintro e w10 ⟨rfl, hb⟩; have n0_ := Aside0.mk (below_step (by repeat (first | (with_reducible first | exact HB.out | apply below_alloc | apply pw_below_drewN | apply below_drew1) | exact HB.out)) hb); clear HB; have HB := n0_; clear n0_; (try clear hb); (try clear hb2); (try clear hk); (try clear hi)) | (go_at_call 12; (with_reducible refine (natural_Of.calls (wrap64 (a0 / 2)) t254 _ A4.out ?side1).mono ?_); (case side1 => exact GOK.below HG.out (by repeat (first | (with_reducible first | exact HB.out | apply below_alloc | apply pw_below_drewN | apply below_drew1) | exact HB.out))); rintro e w11 ⟨rfl, hb⟩; have n0_ := Aside0.mk (below_step (by repeat (first | (with_reducible first | exact HB.out | apply below_alloc | apply pw_below_drewN | apply below_drew1) | exact HB.out)) hb); clear HB; have HB := n0_; clear n0_; (try clear hb); (try clear hb2); (try clear hk); (try clear hi)) | (go_at_call 12; (with_reducible refine (natural_Of.calls (wrap64 (a1 / 2)) t255 _ A5.out ?side1).mono ?_); (case side1 => exact GOK.below HG.out (by repeat (first | (with_reducible first | exact HB.out | apply below_alloc | apply pw_below_drewN | apply below_drew1) | exact HB.out))); rintro e w12 ⟨rfl, hb⟩; have n0_ := Aside0.mk (below_step (by repeat (first | (with_reducible first | exact HB.out | apply below_alloc | apply pw_below_drewN | apply below_drew1) | exact HB.out)) hb); clear HB; have HB := n0_; clear n0_; (try clear hb); (try clear hb2); (try clear hk); (try clear hi)) | (go_at_call 19; (with_reducible refine (natural_Add.calls t254 t255 t256 t257 _ A6.out ?side1).mono ?_); (case side1 => exact GOK.below HG.out (by repeat (first | (with_reducible first | exact HB.out | apply below_alloc | apply pw_below_drewN | apply below_drew1) | exact HB.out))); rintro e w13 ⟨rfl, hb⟩; have n0_ := Aside0.mk (below_step (by repeat (first | (with_reducible first | exact HB.out | apply below_alloc | apply pw_below_drewN | apply below_drew1) | exact HB.out)) hb); clear HB; have HB := n0_; clear n0_; (try clear hb); (try clear hb2); (try clear hk); (try clear hi)) | (go_at_call 18; (with_reducible refine (natural_Mul.calls t254 t255 t258 t259 _ A7.out ?side1).mono ?_); (case side1 => exact GOK.below HG.out (by repeat (first | (with_reducible first | exact HB.out | apply below_alloc | apply pw_below_drewN | apply below_drew1) | exact HB.out))); rintro e w14 ⟨rfl, hb⟩; have n0_ := Aside0.mk (below_step (by repeat (first | (with_reducible first | exact HB.out | apply below_alloc | apply pw_below_drewN | apply below_drew1) | exact HB.out)) hb); clear HB; have HB := n0_; clear n0_; (try clear hb); (try clear hb2); (try clear hk); (try clear hi)) | (go_at_call 15; (with_reducible refine (natural_Compare.calls t254 t255 t260 t261 _ A8.out).mono ?_); rintro e w15 ⟨rfl, hb⟩; have n0_ := Aside0.mk (below_step (by repeat (first | (with_reducible first | exact HB.out | apply below_alloc | apply pw_below_drewN | apply below_drew1) | exact HB.out)) hb); clear HB; have HB := n0_; clear n0_; (try clear hb); (try clear hb2); (try clear hk); (try clear hi))))
  (try simp only [Act.put, List.setIfInBounds_toArray, List.set_cons_zero, List.set_cons_succ])
  go_cut [92] (fun v92 wc => ∃ (kq : Nat) (x92_8 : Bool), v92 = .bool x92_8 ∧ Aside0 (customhouselaw04_NaturalSmall.j0 kq t253 (wrap64 (a0 / 2)) (wrap64 (a1 / 2)) t254 t255 x92_8 = some r) ∧ Aside0 (kq ≤ k) ∧ Aside0 (Below w.heap.size w wc))
  case first =>
    have H := HC9.out
    clear HC9
    by_cases c16 : t257 = 0
    · rw [if_pos c16] at H
      have c16b0 : (t257 == 0) = true := beq_iff_eq.mpr c16
      have c16b1 : (t257 != 0) = false := bne_eq_false_iff_eq.mpr c16
      clear c16
      (first | rw [c16b0] | (simp only [i64_w, i32_w]; rw [c16b0]) | skip)
      by_cases c17 : t259 = 0
      · rw [if_pos c17] at H
        have c17b0 : (t259 == 0) = true := beq_iff_eq.mpr c17
        have c17b1 : (t259 != 0) = false := bne_eq_false_iff_eq.mpr c17
        clear c17
        by_cases c18 : t261 = 0
        · rw [if_pos c18] at H
          have c18b0 : (t261 == 0) = true := beq_iff_eq.mpr c18
          have c18b1 : (t261 != 0) = false := bne_eq_false_iff_eq.mpr c18
          clear c18
          replace H := Option.bind_eq_some_iff.mp H
          obtain ⟨t262, A190, H⟩ := H
          replace H : (if t256.toList = t262.toList then ((natural_Of.f (wrap64 ((wrap64 (a0 / 2)) * (wrap64 (a1 / 2))))).bind fun t263 => (if t258.toList = t263.toList then (if ((decide (t260 < 0)) != (decide ((wrap64 (a0 / 2)) < (wrap64 (a1 / 2))))) = true then (customhouselaw04_NaturalSmall.j0 k t253 (wrap64 (a0 / 2)) (wrap64 (a1 / 2)) t254 t255 true) else (customhouselaw04_NaturalSmall.j0 k t253 (wrap64 (a0 / 2)) (wrap64 (a1 / 2)) t254 t255 ((decide (t260 > 0)) != (decide ((wrap64 (a0 / 2)) > (wrap64 (a1 / 2))))))) else (customhouselaw04_NaturalSmall.j0 k t253 (wrap64 (a0 / 2)) (wrap64 (a1 / 2)) t254 t255 true))) else (customhouselaw04_NaturalSmall.j0 k t253 (wrap64 (a0 / 2)) (wrap64 (a1 / 2)) t254 t255 true)) = some r := H
          have A19 := Aside0.mk A190
          clear A190
          by_cases c20 : t256.toList = t262.toList
          · rw [if_pos c20] at H
            have c20b0 : (t256.toList == t262.toList) = true := beq_iff_eq.mpr c20
            have c20b1 : (t256.toList != t262.toList) = false := bne_eq_false_iff_eq.mpr c20
            clear c20
            replace H := Option.bind_eq_some_iff.mp H
            obtain ⟨t263, A210, H⟩ := H
            replace H : (if t258.toList = t263.toList then (if ((decide (t260 < 0)) != (decide ((wrap64 (a0 / 2)) < (wrap64 (a1 / 2))))) = true then (customhouselaw04_NaturalSmall.j0 k t253 (wrap64 (a0 / 2)) (wrap64 (a1 / 2)) t254 t255 true) else (customhouselaw04_NaturalSmall.j0 k t253 (wrap64 (a0 / 2)) (wrap64 (a1 / 2)) t254 t255 ((decide (t260 > 0)) != (decide ((wrap64 (a0 / 2)) > (wrap64 (a1 / 2))))))) else (customhouselaw04_NaturalSmall.j0 k t253 (wrap64 (a0 / 2)) (wrap64 (a1 / 2)) t254 t255 true)) = some r := H
            have A21 := Aside0.mk A210
            clear A210
            by_cases c22 : t258.toList = t263.toList
            · rw [if_pos c22] at H
              have c22b0 : (t258.toList == t263.toList) = true := beq_iff_eq.mpr c22
              have c22b1 : (t258.toList != t263.toList) = false := bne_eq_false_iff_eq.mpr c22
              clear c22
              by_cases c23 : ((decide (t260 < 0)) != (decide ((wrap64 (a0 / 2)) < (wrap64 (a1 / 2))))) = true
              · rw [if_pos c23] at H
                have c23b0 : ((decide (t260 < 0)) != (decide ((wrap64 (a0 / 2)) < (wrap64 (a1 / 2))))) = true := c23
                (try (have c23b1 : decide ((decide (t260 < 0)) = (decide ((wrap64 (a0 / 2)) < (wrap64 (a1 / 2))))) = false := by simpa using c23))
                (try (have c23b2 : ((decide (t260 < 0)) == (decide ((wrap64 (a0 / 2)) < (wrap64 (a1 / 2))))) = false := by simpa using c23))
                (try (have c23b3 : ¬ ((decide (t260 < 0)) = (decide ((wrap64 (a0 / 2)) < (wrap64 (a1 / 2))))) := by simpa using c23))
                clear c23
                have H' := Aside0.mk H
                clear H
                go_wp2_with (first | (go_at_call 12; (with_reducible refine (natural_Of.calls (wrap64 ((wrap64 (a0 / 2)) + (wrap64 (a1 / 2)))) t262 _ A19.out ?side1).mono ?_); (case side1 => exact GOK.below HG.out (by repeat (first | (with_reducible first | exact HB.out | apply below_alloc | apply pw_below_drewN | apply below_drew1) | exact HB.out))); rintro e w24 ⟨rfl, hb⟩; have n0_ := Aside0.mk (below_step (by repeat (first | (with_reducible first | exact HB.out | apply below_alloc | apply pw_below_drewN | apply below_drew1) | exact HB.out)) hb); clear HB; have HB := n0_; clear n0_; (try clear hb); (try clear hb2); (try clear hk); (try clear hi)) | (go_at_call 12; (with_reducible refine (natural_Of.calls (wrap64 ((wrap64 (a0 / 2)) * (wrap64 (a1 / 2)))) t263 _ A21.out ?side1).mono ?_); (case side1 => exact GOK.below HG.out (by repeat (first | (with_reducible first | exact HB.out | apply below_alloc | apply pw_below_drewN | apply below_drew1) | exact HB.out))); rintro e w25 ⟨rfl, hb⟩; have n0_ := Aside0.mk (below_step (by repeat (first | (with_reducible first | exact HB.out | apply below_alloc | apply pw_below_drewN | apply below_drew1) | exact HB.out)) hb); clear HB; have HB := n0_; clear n0_; (try clear hb); (try clear hb2); (try clear hk); (try clear hi)))
                repeat (go_quiet (first | (go_at_call 12; (with_reducible refine (natural_Of.calls (wrap64 ((wrap64 (a0 / 2)) + (wrap64 (a1 / 2)))) t262 _ A19.out ?side1).mono ?_); (case side1 => exact GOK.below HG.out (by repeat (first | (with_reducible first | exact HB.out | apply below_alloc | apply pw_below_drewN | apply below_drew1) | exact HB.out))); rintro e w24 ⟨rfl, hb⟩; have n0_ := Aside0.mk (below_step (by repeat (first | (with_reducible first | exact HB.out | apply below_alloc | apply pw_below_drewN | apply below_drew1) | exact HB.out)) hb); clear HB; have HB := n0_; clear n0_; (try clear hb); (try clear hb2); (try clear hk); (try clear hi)) | (go_at_call 12; (with_reducible refine (natural_Of.calls (wrap64 ((wrap64 (a0 / 2)) * (wrap64 (a1 / 2)))) t263 _ A21.out ?side1).mono ?_); (case side1 => exact GOK.below HG.out (by repeat (first | (with_reducible first | exact HB.out | apply below_alloc | apply pw_below_drewN | apply below_drew1) | exact HB.out))); rintro e w25 ⟨rfl, hb⟩; have n0_ := Aside0.mk (below_step (by repeat (first | (with_reducible first | exact HB.out | apply below_alloc | apply pw_below_drewN | apply below_drew1) | exact HB.out)) hb); clear HB; have HB := n0_; clear n0_; (try clear hb); (try clear hb2); (try clear hk); (try clear hi))); try go_wp2_with (first | (go_at_call 12; (with_reducible refine (natural_Of.calls (wrap64 ((wrap64 (a0 / 2)) + (wrap64 (a1 / 2)))) t262 _ A19.out ?side1).mono ?_); (case side1 => exact GOK.below HG.out (by repeat (first | (with_reducible first | exact HB.out | apply below_alloc | apply pw_below_drewN | apply below_drew1) | exact HB.out))); rintro e w24 ⟨rfl, hb⟩; have n0_ := Aside0.mk (below_step (by repeat (first | (with_reducible first | exact HB.out | apply below_alloc | apply pw_below_drewN | apply below_drew1) | exact HB.out)) hb); clear HB; have HB := n0_; clear n0_; (try clear hb); (try clear hb2); (try clear hk); (try clear hi)) | (go_at_call 12; (with_reducible refine (natural_Of.calls (wrap64 ((wrap64 (a0 / 2)) * (wrap64 (a1 / 2)))) t263 _ A21.out ?side1).mono ?_); (case side1 => exact GOK.below HG.out (by repeat (first | (with_reducible first | exact HB.out | apply below_alloc | apply pw_below_drewN | apply below_drew1) | exact HB.out))); rintro e w25 ⟨rfl, hb⟩; have n0_ := Aside0.mk (below_step (by repeat (first | (with_reducible first | exact HB.out | apply below_alloc | apply pw_below_drewN | apply below_drew1) | exact HB.out)) hb); clear HB; have HB := n0_; clear n0_; (try clear hb); (try clear hb2); (try clear hk); (try clear hi))))
                go_meet
                case rel => exact ⟨_, (true), (by first | rfl | (simp; done) | (simp [*]; done)), H', ⟨by first | omega | exact Nat.le_refl _⟩, ⟨by repeat (first | (with_reducible first | exact HB.out | apply below_alloc | apply pw_below_drewN | apply below_drew1) | exact HB.out)⟩⟩
              · rw [if_neg c23] at H
                have c23b0 : ((decide (t260 < 0)) != (decide ((wrap64 (a0 / 2)) < (wrap64 (a1 / 2))))) = false := by simpa using c23
                (try (have c23b1 : decide ((decide (t260 < 0)) = (decide ((wrap64 (a0 / 2)) < (wrap64 (a1 / 2))))) = true := by simpa using c23))
                (try (have c23b2 : ((decide (t260 < 0)) == (decide ((wrap64 (a0 / 2)) < (wrap64 (a1 / 2))))) = true := by simpa using c23))
                clear c23
                have H' := Aside0.mk H
                clear H
                go_wp2_with (first | (go_at_call 12; (with_reducible refine (natural_Of.calls (wrap64 ((wrap64 (a0 / 2)) + (wrap64 (a1 / 2)))) t262 _ A19.out ?side1).mono ?_); (case side1 => exact GOK.below HG.out (by repeat (first | (with_reducible first | exact HB.out | apply below_alloc | apply pw_below_drewN | apply below_drew1) | exact HB.out))); rintro e w26 ⟨rfl, hb⟩; have n0_ := Aside0.mk (below_step (by repeat (first | (with_reducible first | exact HB.out | apply below_alloc | apply pw_below_drewN | apply below_drew1) | exact HB.out)) hb); clear HB; have HB := n0_; clear n0_; (try clear hb); (try clear hb2); (try clear hk); (try clear hi)) | (go_at_call 12; (with_reducible refine (natural_Of.calls (wrap64 ((wrap64 (a0 / 2)) * (wrap64 (a1 / 2)))) t263 _ A21.out ?side1).mono ?_); (case side1 => exact GOK.below HG.out (by repeat (first | (with_reducible first | exact HB.out | apply below_alloc | apply pw_below_drewN | apply below_drew1) | exact HB.out))); rintro e w27 ⟨rfl, hb⟩; have n0_ := Aside0.mk (below_step (by repeat (first | (with_reducible first | exact HB.out | apply below_alloc | apply pw_below_drewN | apply below_drew1) | exact HB.out)) hb); clear HB; have HB := n0_; clear n0_; (try clear hb); (try clear hb2); (try clear hk); (try clear hi)))
                repeat (go_quiet (first | (go_at_call 12; (with_reducible refine (natural_Of.calls (wrap64 ((wrap64 (a0 / 2)) + (wrap64 (a1 / 2)))) t262 _ A19.out ?side1).mono ?_); (case side1 => exact GOK.below HG.out (by repeat (first | (with_reducible first | exact HB.out | apply below_alloc | apply pw_below_drewN | apply below_drew1) | exact HB.out))); rintro e w26 ⟨rfl, hb⟩; have n0_ := Aside0.mk (below_step (by repeat (first | (with_reducible first | exact HB.out | apply below_alloc | apply pw_below_drewN | apply below_drew1) | exact HB.out)) hb); clear HB; have HB := n0_; clear n0_; (try clear hb); (try clear hb2); (try clear hk); (try clear hi)) | (go_at_call 12; (with_reducible refine (natural_Of.calls (wrap64 ((wrap64 (a0 / 2)) * (wrap64 (a1 / 2)))) t263 _ A21.out ?side1).mono ?_); (case side1 => exact GOK.below HG.out (by repeat (first | (with_reducible first | exact HB.out | apply below_alloc | apply pw_below_drewN | apply below_drew1) | exact HB.out))); rintro e w27 ⟨rfl, hb⟩; have n0_ := Aside0.mk (below_step (by repeat (first | (with_reducible first | exact HB.out | apply below_alloc | apply pw_below_drewN | apply below_drew1) | exact HB.out)) hb); clear HB; have HB := n0_; clear n0_; (try clear hb); (try clear hb2); (try clear hk); (try clear hi))); try go_wp2_with (first | (go_at_call 12; (with_reducible refine (natural_Of.calls (wrap64 ((wrap64 (a0 / 2)) + (wrap64 (a1 / 2)))) t262 _ A19.out ?side1).mono ?_); (case side1 => exact GOK.below HG.out (by repeat (first | (with_reducible first | exact HB.out | apply below_alloc | apply pw_below_drewN | apply below_drew1) | exact HB.out))); rintro e w26 ⟨rfl, hb⟩; have n0_ := Aside0.mk (below_step (by repeat (first | (with_reducible first | exact HB.out | apply below_alloc | apply pw_below_drewN | apply below_drew1) | exact HB.out)) hb); clear HB; have HB := n0_; clear n0_; (try clear hb); (try clear hb2); (try clear hk); (try clear hi)) | (go_at_call 12; (with_reducible refine (natural_Of.calls (wrap64 ((wrap64 (a0 / 2)) * (wrap64 (a1 / 2)))) t263 _ A21.out ?side1).mono ?_); (case side1 => exact GOK.below HG.out (by repeat (first | (with_reducible first | exact HB.out | apply below_alloc | apply pw_below_drewN | apply below_drew1) | exact HB.out))); rintro e w27 ⟨rfl, hb⟩; have n0_ := Aside0.mk (below_step (by repeat (first | (with_reducible first | exact HB.out | apply below_alloc | apply pw_below_drewN | apply below_drew1) | exact HB.out)) hb); clear HB; have HB := n0_; clear n0_; (try clear hb); (try clear hb2); (try clear hk); (try clear hi))))
                go_meet
                case rel => exact ⟨_, (((decide (t260 > 0)) != (decide ((wrap64 (a0 / 2)) > (wrap64 (a1 / 2)))))), (by first | rfl | (simp; done) | (simp [*]; done)), H', ⟨by first | omega | exact Nat.le_refl _⟩, ⟨by repeat (first | (with_reducible first | exact HB.out | apply below_alloc | apply pw_below_drewN | apply below_drew1) | exact HB.out)⟩⟩
            · rw [if_neg c22] at H
              have c22b0 : (t258.toList == t263.toList) = false := beq_eq_false_iff_ne.mpr c22
              have c22b1 : (t258.toList != t263.toList) = true := bne_iff_ne.mpr c22
              have H' := Aside0.mk H
              clear H
              go_wp2_with (first | (go_at_call 12; (with_reducible refine (natural_Of.calls (wrap64 ((wrap64 (a0 / 2)) + (wrap64 (a1 / 2)))) t262 _ A19.out ?side1).mono ?_); (case side1 => exact GOK.below HG.out (by repeat (first | (with_reducible first | exact HB.out | apply below_alloc | apply pw_below_drewN | apply below_drew1) | exact HB.out))); rintro e w28 ⟨rfl, hb⟩; have n0_ := Aside0.mk (below_step (by repeat (first | (with_reducible first | exact HB.out | apply below_alloc | apply pw_below_drewN | apply below_drew1) | exact HB.out)) hb); clear HB; have HB := n0_; clear n0_; (try clear hb); (try clear hb2); (try clear hk); (try clear hi)) | (go_at_call 12; (with_reducible refine (natural_Of.calls (wrap64 ((wrap64 (a0 / 2)) * (wrap64 (a1 / 2)))) t263 _ A21.out ?side1).mono ?_); (case side1 => exact GOK.below HG.out (by repeat (first | (with_reducible first | exact HB.out | apply below_alloc | apply pw_below_drewN | apply below_drew1) | exact HB.out))); rintro e w29 ⟨rfl, hb⟩; have n0_ := Aside0.mk (below_step (by repeat (first | (with_reducible first | exact HB.out | apply below_alloc | apply pw_below_drewN | apply below_drew1) | exact HB.out)) hb); clear HB; have HB := n0_; clear n0_; (try clear hb); (try clear hb2); (try clear hk); (try clear hi)))
              repeat (go_quiet (first | (go_at_call 12; (with_reducible refine (natural_Of.calls (wrap64 ((wrap64 (a0 / 2)) + (wrap64 (a1 / 2)))) t262 _ A19.out ?side1).mono ?_); (case side1 => exact GOK.below HG.out (by repeat (first | (with_reducible first | exact HB.out | apply below_alloc | apply pw_below_drewN | apply below_drew1) | exact HB.out))); rintro e w28 ⟨rfl, hb⟩; have n0_ := Aside0.mk (below_step (by repeat (first | (with_reducible first | exact HB.out | apply below_alloc | apply pw_below_drewN | apply below_drew1) | exact HB.out)) hb); clear HB; have HB := n0_; clear n0_; (try clear hb); (try clear hb2); (try clear hk); (try clear hi)) | (go_at_call 12; (with_reducible refine (natural_Of.calls (wrap64 ((wrap64 (a0 / 2)) * (wrap64 (a1 / 2)))) t263 _ A21.out ?side1).mono ?_); (case side1 => exact GOK.below HG.out (by repeat (first | (with_reducible first | exact HB.out | apply below_alloc | apply pw_below_drewN | apply below_drew1) | exact HB.out))); rintro e w29 ⟨rfl, hb⟩; have n0_ := Aside0.mk (below_step (by repeat (first | (with_reducible first | exact HB.out | apply below_alloc | apply pw_below_drewN | apply below_drew1) | exact HB.out)) hb); clear HB; have HB := n0_; clear n0_; (try clear hb); (try clear hb2); (try clear hk); (try clear hi))); try go_wp2_with (first | (go_at_call 12; (with_reducible refine (natural_Of.calls (wrap64 ((wrap64 (a0 / 2)) + (wrap64 (a1 / 2)))) t262 _ A19.out ?side1).mono ?_); (case side1 => exact GOK.below HG.out (by repeat (first | (with_reducible first | exact HB.out | apply below_alloc | apply pw_below_drewN | apply below_drew1) | exact HB.out))); rintro e w28 ⟨rfl, hb⟩; have n0_ := Aside0.mk (below_step (by repeat (first | (with_reducible first | exact HB.out | apply below_alloc | apply pw_below_drewN | apply below_drew1) | exact HB.out)) hb); clear HB; have HB := n0_; clear n0_; (try clear hb); (try clear hb2); (try clear hk); (try clear hi)) | (go_at_call 12; (with_reducible refine (natural_Of.calls (wrap64 ((wrap64 (a0 / 2)) * (wrap64 (a1 / 2)))) t263 _ A21.out ?side1).mono ?_); (case side1 => exact GOK.below HG.out (by repeat (first | (with_reducible first | exact HB.out | apply below_alloc | apply pw_below_drewN | apply below_drew1) | exact HB.out))); rintro e w29 ⟨rfl, hb⟩; have n0_ := Aside0.mk (below_step (by repeat (first | (with_reducible first | exact HB.out | apply below_alloc | apply pw_below_drewN | apply below_drew1) | exact HB.out)) hb); clear HB; have HB := n0_; clear n0_; (try clear hb); (try clear hb2); (try clear hk); (try clear hi))))
              go_meet
              case rel => exact ⟨_, (true), (by first | rfl | (simp; done) | (simp [*]; done)), H', ⟨by first | omega | exact Nat.le_refl _⟩, ⟨by repeat (first | (with_reducible first | exact HB.out | apply below_alloc | apply pw_below_drewN | apply below_drew1) | exact HB.out)⟩⟩
          · rw [if_neg c20] at H
            have c20b0 : (t256.toList == t262.toList) = false := beq_eq_false_iff_ne.mpr c20
            have c20b1 : (t256.toList != t262.toList) = true := bne_iff_ne.mpr c20
            have H' := Aside0.mk H
            clear H
            go_wp2_with (first | (go_at_call 12; (with_reducible refine (natural_Of.calls (wrap64 ((wrap64 (a0 / 2)) + (wrap64 (a1 / 2)))) t262 _ A19.out ?side1).mono ?_); (case side1 => exact GOK.below HG.out (by repeat (first | (with_reducible first | exact HB.out | apply below_alloc | apply pw_below_drewN | apply below_drew1) | exact HB.out))); rintro e w30 ⟨rfl, hb⟩; have n0_ := Aside0.mk (below_step (by repeat (first | (with_reducible first | exact HB.out | apply below_alloc | apply pw_below_drewN | apply below_drew1) | exact HB.out)) hb); clear HB; have HB := n0_; clear n0_; (try clear hb); (try clear hb2); (try clear hk); (try clear hi)))
            repeat (go_quiet (first | (go_at_call 12; (with_reducible refine (natural_Of.calls (wrap64 ((wrap64 (a0 / 2)) + (wrap64 (a1 / 2)))) t262 _ A19.out ?side1).mono ?_); (case side1 => exact GOK.below HG.out (by repeat (first | (with_reducible first | exact HB.out | apply below_alloc | apply pw_below_drewN | apply below_drew1) | exact HB.out))); rintro e w30 ⟨rfl, hb⟩; have n0_ := Aside0.mk (below_step (by repeat (first | (with_reducible first | exact HB.out | apply below_alloc | apply pw_below_drewN | apply below_drew1) | exact HB.out)) hb); clear HB; have HB := n0_; clear n0_; (try clear hb); (try clear hb2); (try clear hk); (try clear hi))); try go_wp2_with (first | (go_at_call 12; (with_reducible refine (natural_Of.calls (wrap64 ((wrap64 (a0 / 2)) + (wrap64 (a1 / 2)))) t262 _ A19.out ?side1).mono ?_); (case side1 => exact GOK.below HG.out (by repeat (first | (with_reducible first | exact HB.out | apply below_alloc | apply pw_below_drewN | apply below_drew1) | exact HB.out))); rintro e w30 ⟨rfl, hb⟩; have n0_ := Aside0.mk (below_step (by repeat (first | (with_reducible first | exact HB.out | apply below_alloc | apply pw_below_drewN | apply below_drew1) | exact HB.out)) hb); clear HB; have HB := n0_; clear n0_; (try clear hb); (try clear hb2); (try clear hk); (try clear hi))))
            go_meet
            case rel => exact ⟨_, (true), (by first | rfl | (simp; done) | (simp [*]; done)), H', ⟨by first | omega | exact Nat.le_refl _⟩, ⟨by repeat (first | (with_reducible first | exact HB.out | apply below_alloc | apply pw_below_drewN | apply below_drew1) | exact HB.out)⟩⟩
        · rw [if_neg c18] at H
          have c18b0 : (t261 == 0) = false := beq_eq_false_iff_ne.mpr c18
          have c18b1 : (t261 != 0) = true := bne_iff_ne.mpr c18
          have H' := Aside0.mk H
          clear H
          go_wp2
          repeat (go_quiet (fail); try go_wp2)
          go_meet
          case rel => exact ⟨_, (true), (by first | rfl | (simp; done) | (simp [*]; done)), H', ⟨by first | omega | exact Nat.le_refl _⟩, ⟨by repeat (first | (with_reducible first | exact HB.out | apply below_alloc | apply pw_below_drewN | apply below_drew1) | exact HB.out)⟩⟩
      · rw [if_neg c17] at H
        have c17b0 : (t259 == 0) = false := beq_eq_false_iff_ne.mpr c17
        have c17b1 : (t259 != 0) = true := bne_iff_ne.mpr c17
        have H' := Aside0.mk H
        clear H
        go_wp2
        repeat (go_quiet (fail); try go_wp2)
        go_meet
        case rel => exact ⟨_, (true), (by first | rfl | (simp; done) | (simp [*]; done)), H', ⟨by first | omega | exact Nat.le_refl _⟩, ⟨by repeat (first | (with_reducible first | exact HB.out | apply below_alloc | apply pw_below_drewN | apply below_drew1) | exact HB.out)⟩⟩
    · rw [if_neg c16] at H
      have c16b0 : (t257 == 0) = false := beq_eq_false_iff_ne.mpr c16
      have c16b1 : (t257 != 0) = true := bne_iff_ne.mpr c16
      (first | rw [c16b0] | (simp only [i64_w, i32_w]; rw [c16b0]) | skip)
      have H' := Aside0.mk H
      clear H
      go_wp2
      repeat (go_quiet (fail); try go_wp2)
      go_meet
      case rel => exact ⟨_, (true), (by first | rfl | (simp; done) | (simp [*]; done)), H', ⟨by first | omega | exact Nat.le_refl _⟩, ⟨by repeat (first | (with_reducible first | exact HB.out | apply below_alloc | apply pw_below_drewN | apply below_drew1) | exact HB.out)⟩⟩
  case rest =>
    clear HC9
    try clear c1
    try clear c2
    try clear p2
    try clear p6
    try clear c10
    try clear c16
    try clear c16b0
    try clear c16b1
    try clear c17
    try clear c17b0
    try clear c17b1
    try clear c18
    try clear c18b0
    try clear c18b1
    try clear c20
    try clear c20b0
    try clear c20b1
    try clear c22
    try clear c22b0
    try clear c22b1
    try clear c23
    try clear c23b0
    try clear c23b1
    try clear c23b2
    obtain ⟨kq, x92_8, rfl, HA, HJ8, HB⟩ := hcut
    cases kq with
    | zero => exact absurd HA.out (by simp [customhouselaw04_NaturalSmall.j0])
    | succ kj8 =>
      have H := HA.out
      clear HA
      simp only [customhouselaw04_NaturalSmall.j0] at H
      by_cases c31 : x92_8 = true
      · subst c31
        have H1 : (some false) = some r := by rw [if_pos rfl] at H; exact H
        clear H
        have H := H1
        clear H1
        obtain rfl := Option.some.inj H
        go_wp2
        repeat (go_quiet (fail); try go_wp2)
        go_ret
        exact ⟨by first | rfl | (simp [errW_none, errW_some] <;> rfl) | (simp [*, errW_none, errW_some] <;> rfl), by repeat (first | (with_reducible first | exact HB.out | apply below_alloc | apply pw_below_drewN | apply below_drew1) | exact HB.out)⟩
      · replace c31 := Bool.eq_false_iff.mpr c31
        subst c31
        have H1 : ((natural_Sub.f t254 t255).bind fun bt264 => (if (wrap64 (a0 / 2)) ≥ (wrap64 (a1 / 2)) then (if bt264.2 = 0 then ((natural_Of.f (wrap64 ((wrap64 (a0 / 2)) - (wrap64 (a1 / 2))))).bind fun t266 => (if bt264.1.toList = t266.toList then (if (wrap64 (a0 / 2)) < (wrap64 (a1 / 2)) then (customhouselaw04_NaturalSmall.j1 kj8 t253 (wrap64 (a0 / 2)) (wrap64 (a1 / 2)) t254 t255 (bt264.2 != 10)) else (customhouselaw04_NaturalSmall.j1 kj8 t253 (wrap64 (a0 / 2)) (wrap64 (a1 / 2)) t254 t255 false)) else (customhouselaw04_NaturalSmall.j1 kj8 t253 (wrap64 (a0 / 2)) (wrap64 (a1 / 2)) t254 t255 true))) else (customhouselaw04_NaturalSmall.j1 kj8 t253 (wrap64 (a0 / 2)) (wrap64 (a1 / 2)) t254 t255 true)) else (if (wrap64 (a0 / 2)) < (wrap64 (a1 / 2)) then (customhouselaw04_NaturalSmall.j1 kj8 t253 (wrap64 (a0 / 2)) (wrap64 (a1 / 2)) t254 t255 (bt264.2 != 10)) else (customhouselaw04_NaturalSmall.j1 kj8 t253 (wrap64 (a0 / 2)) (wrap64 (a1 / 2)) t254 t255 false)))) = some r := by rw [if_neg (show ¬ (false = true) by decide)] at H; exact H
        clear H
        have H := H1
        clear H1
        replace H := Option.bind_eq_some_iff.mp H
        obtain ⟨⟨t264, t265⟩, A320, H⟩ := H
        replace H : (if (wrap64 (a0 / 2)) ≥ (wrap64 (a1 / 2)) then (if t265 = 0 then ((natural_Of.f (wrap64 ((wrap64 (a0 / 2)) - (wrap64 (a1 / 2))))).bind fun t266 => (if t264.toList = t266.toList then (if (wrap64 (a0 / 2)) < (wrap64 (a1 / 2)) then (customhouselaw04_NaturalSmall.j1 kj8 t253 (wrap64 (a0 / 2)) (wrap64 (a1 / 2)) t254 t255 (t265 != 10)) else (customhouselaw04_NaturalSmall.j1 kj8 t253 (wrap64 (a0 / 2)) (wrap64 (a1 / 2)) t254 t255 false)) else (customhouselaw04_NaturalSmall.j1 kj8 t253 (wrap64 (a0 / 2)) (wrap64 (a1 / 2)) t254 t255 true))) else (customhouselaw04_NaturalSmall.j1 kj8 t253 (wrap64 (a0 / 2)) (wrap64 (a1 / 2)) t254 t255 true)) else (if (wrap64 (a0 / 2)) < (wrap64 (a1 / 2)) then (customhouselaw04_NaturalSmall.j1 kj8 t253 (wrap64 (a0 / 2)) (wrap64 (a1 / 2)) t254 t255 (t265 != 10)) else (customhouselaw04_NaturalSmall.j1 kj8 t253 (wrap64 (a0 / 2)) (wrap64 (a1 / 2)) t254 t255 false))) = some r := H
        have A32 := Aside0.mk A320
        clear A320
        have HC33 := Aside0.mk H
        clear H
        go_upto_region 12 with (first | (go_at_call 20; (with_reducible refine (natural_Sub.calls t254 t255 t264 t265 _ A32.out ?side1).mono ?_); (case side1 => exact GOK.below HG.out (by repeat (first | (with_reducible first | exact HB.out | apply below_alloc | apply pw_below_drewN | apply below_drew1) | exact HB.out))); rintro e w34 ⟨rfl, hb⟩; have n0_ := Aside0.mk (below_step (by repeat (first | (with_reducible first | exact HB.out | apply below_alloc | apply pw_below_drewN | apply below_drew1) | exact HB.out)) hb); clear HB; have HB := n0_; clear n0_; (try clear hb); (try clear hb2); (try clear hk); (try clear hi)))
        repeat (go_quiet (first | (go_at_call 20; (with_reducible refine (natural_Sub.calls t254 t255 t264 t265 _ A32.out ?side1).mono ?_); (case side1 => exact GOK.below HG.out (by repeat (first | (with_reducible first | exact HB.out | apply below_alloc | apply pw_below_drewN | apply below_drew1) | exact HB.out))); rintro e w34 ⟨rfl, hb⟩; have n0_ := Aside0.mk (below_step (by repeat (first | (with_reducible first | exact HB.out | apply below_alloc | apply pw_below_drewN | apply below_drew1) | exact HB.out)) hb); clear HB; have HB := n0_; clear n0_; (try clear hb); (try clear hb2); (try clear hk); (try clear hi))); go_upto_region 12 with (first | (go_at_call 20; (with_reducible refine (natural_Sub.calls t254 t255 t264 t265 _ A32.out ?side1).mono ?_); (case side1 => exact GOK.below HG.out (by repeat (first | (with_reducible first | exact HB.out | apply below_alloc | apply pw_below_drewN | apply below_drew1) | exact HB.out))); rintro e w34 ⟨rfl, hb⟩; have n0_ := Aside0.mk (below_step (by repeat (first | (with_reducible first | exact HB.out | apply below_alloc | apply pw_below_drewN | apply below_drew1) | exact HB.out)) hb); clear HB; have HB := n0_; clear n0_; (try clear hb); (try clear hb2); (try clear hk); (try clear hi))))
        (try simp only [Act.put, List.setIfInBounds_toArray, List.set_cons_zero, List.set_cons_succ])
        go_cut [122] (fun v122 wc => ∃ (kq : Nat) (x122_32 : Bool), v122 = .bool x122_32 ∧ Aside0 (customhouselaw04_NaturalSmall.j1 kq t253 (wrap64 (a0 / 2)) (wrap64 (a1 / 2)) t254 t255 x122_32 = some r) ∧ Aside0 (kq ≤ kj8) ∧ Aside0 (Below w.heap.size w wc))
        case first =>
          have H := HC33.out
          clear HC33
          by_cases c35 : (wrap64 (a0 / 2)) ≥ (wrap64 (a1 / 2))
          · rw [if_pos c35] at H
            have c35b0 : decide ((wrap64 (a1 / 2)) ≤ (wrap64 (a0 / 2))) = true := decide_eq_true c35
            clear c35
            (first | rw [c35b0] | (simp only [i64_w, i32_w]; rw [c35b0]) | skip)
            by_cases c36 : t265 = 0
            · rw [if_pos c36] at H
              have c36b0 : (t265 == 0) = true := beq_iff_eq.mpr c36
              have c36b1 : (t265 != 0) = false := bne_eq_false_iff_eq.mpr c36
              clear c36
              replace H := Option.bind_eq_some_iff.mp H
              obtain ⟨t266, A370, H⟩ := H
              replace H : (if t264.toList = t266.toList then (if (wrap64 (a0 / 2)) < (wrap64 (a1 / 2)) then (customhouselaw04_NaturalSmall.j1 kj8 t253 (wrap64 (a0 / 2)) (wrap64 (a1 / 2)) t254 t255 (t265 != 10)) else (customhouselaw04_NaturalSmall.j1 kj8 t253 (wrap64 (a0 / 2)) (wrap64 (a1 / 2)) t254 t255 false)) else (customhouselaw04_NaturalSmall.j1 kj8 t253 (wrap64 (a0 / 2)) (wrap64 (a1 / 2)) t254 t255 true)) = some r := H
              have A37 := Aside0.mk A370
              clear A370
              by_cases c38 : t264.toList = t266.toList
              · rw [if_pos c38] at H
                have c38b0 : (t264.toList == t266.toList) = true := beq_iff_eq.mpr c38
                have c38b1 : (t264.toList != t266.toList) = false := bne_eq_false_iff_eq.mpr c38
                clear c38
                by_cases c39 : (wrap64 (a0 / 2)) < (wrap64 (a1 / 2))
                · rw [if_pos c39] at H
                  have c39b0 : decide ((wrap64 (a0 / 2)) < (wrap64 (a1 / 2))) = true := decide_eq_true c39
                  clear c39
                  have H' := Aside0.mk H
                  clear H
                  go_wp2_with (first | (go_at_call 12; (with_reducible refine (natural_Of.calls (wrap64 ((wrap64 (a0 / 2)) - (wrap64 (a1 / 2)))) t266 _ A37.out ?side1).mono ?_); (case side1 => exact GOK.below HG.out (by repeat (first | (with_reducible first | exact HB.out | apply below_alloc | apply pw_below_drewN | apply below_drew1) | exact HB.out))); rintro e w40 ⟨rfl, hb⟩; have n0_ := Aside0.mk (below_step (by repeat (first | (with_reducible first | exact HB.out | apply below_alloc | apply pw_below_drewN | apply below_drew1) | exact HB.out)) hb); clear HB; have HB := n0_; clear n0_; (try clear hb); (try clear hb2); (try clear hk); (try clear hi)))
                  repeat (go_quiet (first | (go_at_call 12; (with_reducible refine (natural_Of.calls (wrap64 ((wrap64 (a0 / 2)) - (wrap64 (a1 / 2)))) t266 _ A37.out ?side1).mono ?_); (case side1 => exact GOK.below HG.out (by repeat (first | (with_reducible first | exact HB.out | apply below_alloc | apply pw_below_drewN | apply below_drew1) | exact HB.out))); rintro e w40 ⟨rfl, hb⟩; have n0_ := Aside0.mk (below_step (by repeat (first | (with_reducible first | exact HB.out | apply below_alloc | apply pw_below_drewN | apply below_drew1) | exact HB.out)) hb); clear HB; have HB := n0_; clear n0_; (try clear hb); (try clear hb2); (try clear hk); (try clear hi))); try go_wp2_with (first | (go_at_call 12; (with_reducible refine (natural_Of.calls (wrap64 ((wrap64 (a0 / 2)) - (wrap64 (a1 / 2)))) t266 _ A37.out ?side1).mono ?_); (case side1 => exact GOK.below HG.out (by repeat (first | (with_reducible first | exact HB.out | apply below_alloc | apply pw_below_drewN | apply below_drew1) | exact HB.out))); rintro e w40 ⟨rfl, hb⟩; have n0_ := Aside0.mk (below_step (by repeat (first | (with_reducible first | exact HB.out | apply below_alloc | apply pw_below_drewN | apply below_drew1) | exact HB.out)) hb); clear HB; have HB := n0_; clear n0_; (try clear hb); (try clear hb2); (try clear hk); (try clear hi))))
                  go_meet
                  case rel => exact ⟨_, ((t265 != 10)), (by first | rfl | (simp; done) | (simp [*]; done)), H', ⟨by have := HJ8.out; first | omega | exact Nat.le_refl _⟩, ⟨by repeat (first | (with_reducible first | exact HB.out | apply below_alloc | apply pw_below_drewN | apply below_drew1) | exact HB.out)⟩⟩
                · rw [if_neg c39] at H
                  have c39b0 : decide ((wrap64 (a0 / 2)) < (wrap64 (a1 / 2))) = false := decide_eq_false c39
                  clear c39
                  have H' := Aside0.mk H
                  clear H
                  go_wp2_with (first | (go_at_call 12; (with_reducible refine (natural_Of.calls (wrap64 ((wrap64 (a0 / 2)) - (wrap64 (a1 / 2)))) t266 _ A37.out ?side1).mono ?_); (case side1 => exact GOK.below HG.out (by repeat (first | (with_reducible first | exact HB.out | apply below_alloc | apply pw_below_drewN | apply below_drew1) | exact HB.out))); rintro e w41 ⟨rfl, hb⟩; have n0_ := Aside0.mk (below_step (by repeat (first | (with_reducible first | exact HB.out | apply below_alloc | apply pw_below_drewN | apply below_drew1) | exact HB.out)) hb); clear HB; have HB := n0_; clear n0_; (try clear hb); (try clear hb2); (try clear hk); (try clear hi)))
                  repeat (go_quiet (first | (go_at_call 12; (with_reducible refine (natural_Of.calls (wrap64 ((wrap64 (a0 / 2)) - (wrap64 (a1 / 2)))) t266 _ A37.out ?side1).mono ?_); (case side1 => exact GOK.below HG.out (by repeat (first | (with_reducible first | exact HB.out | apply below_alloc | apply pw_below_drewN | apply below_drew1) | exact HB.out))); rintro e w41 ⟨rfl, hb⟩; have n0_ := Aside0.mk (below_step (by repeat (first | (with_reducible first | exact HB.out | apply below_alloc | apply pw_below_drewN | apply below_drew1) | exact HB.out)) hb); clear HB; have HB := n0_; clear n0_; (try clear hb); (try clear hb2); (try clear hk); (try clear hi))); try go_wp2_with (first | (go_at_call 12; (with_reducible refine (natural_Of.calls (wrap64 ((wrap64 (a0 / 2)) - (wrap64 (a1 / 2)))) t266 _ A37.out ?side1).mono ?_); (case side1 => exact GOK.below HG.out (by repeat (first | (with_reducible first | exact HB.out | apply below_alloc | apply pw_below_drewN | apply below_drew1) | exact HB.out))); rintro e w41 ⟨rfl, hb⟩; have n0_ := Aside0.mk (below_step (by repeat (first | (with_reducible first | exact HB.out | apply below_alloc | apply pw_below_drewN | apply below_drew1) | exact HB.out)) hb); clear HB; have HB := n0_; clear n0_; (try clear hb); (try clear hb2); (try clear hk); (try clear hi))))
                  go_meet
                  case rel => exact ⟨_, (false), (by first | rfl | (simp; done) | (simp [*]; done)), H', ⟨by have := HJ8.out; first | omega | exact Nat.le_refl _⟩, ⟨by repeat (first | (with_reducible first | exact HB.out | apply below_alloc | apply pw_below_drewN | apply below_drew1) | exact HB.out)⟩⟩
              · rw [if_neg c38] at H
                have c38b0 : (t264.toList == t266.toList) = false := beq_eq_false_iff_ne.mpr c38
                have c38b1 : (t264.toList != t266.toList) = true := bne_iff_ne.mpr c38
                have H' := Aside0.mk H
                clear H
                go_wp2_with (first | (go_at_call 12; (with_reducible refine (natural_Of.calls (wrap64 ((wrap64 (a0 / 2)) - (wrap64 (a1 / 2)))) t266 _ A37.out ?side1).mono ?_); (case side1 => exact GOK.below HG.out (by repeat (first | (with_reducible first | exact HB.out | apply below_alloc | apply pw_below_drewN | apply below_drew1) | exact HB.out))); rintro e w42 ⟨rfl, hb⟩; have n0_ := Aside0.mk (below_step (by repeat (first | (with_reducible first | exact HB.out | apply below_alloc | apply pw_below_drewN | apply below_drew1) | exact HB.out)) hb); clear HB; have HB := n0_; clear n0_; (try clear hb); (try clear hb2); (try clear hk); (try clear hi)))
                repeat (go_quiet (first | (go_at_call 12; (with_reducible refine (natural_Of.calls (wrap64 ((wrap64 (a0 / 2)) - (wrap64 (a1 / 2)))) t266 _ A37.out ?side1).mono ?_); (case side1 => exact GOK.below HG.out (by repeat (first | (with_reducible first | exact HB.out | apply below_alloc | apply pw_below_drewN | apply below_drew1) | exact HB.out))); rintro e w42 ⟨rfl, hb⟩; have n0_ := Aside0.mk (below_step (by repeat (first | (with_reducible first | exact HB.out | apply below_alloc | apply pw_below_drewN | apply below_drew1) | exact HB.out)) hb); clear HB; have HB := n0_; clear n0_; (try clear hb); (try clear hb2); (try clear hk); (try clear hi))); try go_wp2_with (first | (go_at_call 12; (with_reducible refine (natural_Of.calls (wrap64 ((wrap64 (a0 / 2)) - (wrap64 (a1 / 2)))) t266 _ A37.out ?side1).mono ?_); (case side1 => exact GOK.below HG.out (by repeat (first | (with_reducible first | exact HB.out | apply below_alloc | apply pw_below_drewN | apply below_drew1) | exact HB.out))); rintro e w42 ⟨rfl, hb⟩; have n0_ := Aside0.mk (below_step (by repeat (first | (with_reducible first | exact HB.out | apply below_alloc | apply pw_below_drewN | apply below_drew1) | exact HB.out)) hb); clear HB; have HB := n0_; clear n0_; (try clear hb); (try clear hb2); (try clear hk); (try clear hi))))
                go_meet
                case rel => exact ⟨_, (true), (by first | rfl | (simp; done) | (simp [*]; done)), H', ⟨by have := HJ8.out; first | omega | exact Nat.le_refl _⟩, ⟨by repeat (first | (with_reducible first | exact HB.out | apply below_alloc | apply pw_below_drewN | apply below_drew1) | exact HB.out)⟩⟩
            · rw [if_neg c36] at H
              have c36b0 : (t265 == 0) = false := beq_eq_false_iff_ne.mpr c36
              have c36b1 : (t265 != 0) = true := bne_iff_ne.mpr c36
              have H' := Aside0.mk H
              clear H
              go_wp2
              repeat (go_quiet (fail); try go_wp2)
              go_meet
              case rel => exact ⟨_, (true), (by first | rfl | (simp; done) | (simp [*]; done)), H', ⟨by have := HJ8.out; first | omega | exact Nat.le_refl _⟩, ⟨by repeat (first | (with_reducible first | exact HB.out | apply below_alloc | apply pw_below_drewN | apply below_drew1) | exact HB.out)⟩⟩
          · rw [if_neg c35] at H
            have c35b0 : decide ((wrap64 (a1 / 2)) ≤ (wrap64 (a0 / 2))) = false := decide_eq_false c35
            clear c35
            (first | rw [c35b0] | (simp only [i64_w, i32_w]; rw [c35b0]) | skip)
            by_cases c43 : (wrap64 (a0 / 2)) < (wrap64 (a1 / 2))
            · rw [if_pos c43] at H
              have c43b0 : decide ((wrap64 (a0 / 2)) < (wrap64 (a1 / 2))) = true := decide_eq_true c43
              clear c43
              have H' := Aside0.mk H
              clear H
              go_wp2
              repeat (go_quiet (fail); try go_wp2)
              go_meet
              case rel => exact ⟨_, ((t265 != 10)), (by first | rfl | (simp; done) | (simp [*]; done)), H', ⟨by have := HJ8.out; first | omega | exact Nat.le_refl _⟩, ⟨by repeat (first | (with_reducible first | exact HB.out | apply below_alloc | apply pw_below_drewN | apply below_drew1) | exact HB.out)⟩⟩
            · rw [if_neg c43] at H
              have c43b0 : decide ((wrap64 (a0 / 2)) < (wrap64 (a1 / 2))) = false := decide_eq_false c43
              clear c43
              have H' := Aside0.mk H
              clear H
              go_wp2
              repeat (go_quiet (fail); try go_wp2)
              go_meet
              case rel => exact ⟨_, (false), (by first | rfl | (simp; done) | (simp [*]; done)), H', ⟨by have := HJ8.out; first | omega | exact Nat.le_refl _⟩, ⟨by repeat (first | (with_reducible first | exact HB.out | apply below_alloc | apply pw_below_drewN | apply below_drew1) | exact HB.out)⟩⟩
        case rest =>
          clear HC33
          try clear c1
          try clear c2
          try clear p2
          try clear c3
          try clear c4
          try clear p6
          try clear c10
          try clear c16
          try clear c16b0
          try clear c16b1
          try clear c17
          try clear c17b0
          try clear c17b1
          try clear c18
          try clear c18b0
          try clear c18b1
          try clear c20
          try clear c20b0
          try clear c20b1
          try clear c22
          try clear c22b0
          try clear c22b1
          try clear c23
          try clear c23b0
          try clear c23b1
          try clear c23b2
          try clear c31
          try clear c35
          try clear c35b0
          try clear c36
          try clear c36b0
          try clear c36b1
          try clear c38
          try clear c38b0
          try clear c38b1
          try clear c39
          try clear c39b0
          try clear c43
          try clear c43b0
          try clear p2
          try clear p6
          obtain ⟨kq, x122_32, rfl, HA, HJ32, HB⟩ := hcut
          cases kq with
          | zero => exact absurd HA.out (by simp [customhouselaw04_NaturalSmall.j1])
          | succ kj32 =>
            have H := HA.out
            clear HA
            simp only [customhouselaw04_NaturalSmall.j1] at H
            by_cases c44 : x122_32 = true
            · subst c44
              have H1 : (some false) = some r := by rw [if_pos rfl] at H; exact H
              clear H
              have H := H1
              clear H1
              obtain rfl := Option.some.inj H
              go_wp2
              repeat (go_quiet (fail); try go_wp2)
              go_ret
              exact ⟨by first | rfl | (simp [errW_none, errW_some] <;> rfl) | (simp [*, errW_none, errW_some] <;> rfl), by repeat (first | (with_reducible first | exact HB.out | apply below_alloc | apply pw_below_drewN | apply below_drew1) | exact HB.out)⟩
            · replace c44 := Bool.eq_false_iff.mpr c44
              subst c44
              have H1 : (if (wrap64 (a1 / 2)) = 0 then (some t253) else ((natural_Div.f t254 t255).bind fun bt267 => (customhouselaw04_NaturalSmall.l0 kj32 t253 (wrap64 (a0 / 2)) (wrap64 (a1 / 2)) t254 t255 bt267.2.2 bt267.1 bt267.2.1 (wrap64 (a0 / 2)) (wrap64 (a1 / 2))))) = some r := by rw [if_neg (show ¬ (false = true) by decide)] at H; exact H
              clear H
              have H := H1
              clear H1
              by_cases c45 : (wrap64 (a1 / 2)) = 0
              · rw [if_pos c45] at H
                have c45b0 : ((wrap64 (a1 / 2)) == 0) = true := beq_iff_eq.mpr c45
                have c45b1 : ((wrap64 (a1 / 2)) != 0) = false := bne_eq_false_iff_eq.mpr c45
                clear c45
                obtain rfl := Option.some.inj H
                go_wp2
                repeat (go_quiet (fail); try go_wp2)
                go_ret
                exact ⟨by first | rfl | (simp [errW_none, errW_some] <;> rfl) | (simp [*, errW_none, errW_some] <;> rfl), by repeat (first | (with_reducible first | exact HB.out | apply below_alloc | apply pw_below_drewN | apply below_drew1) | exact HB.out)⟩
              · rw [if_neg c45] at H
                have c45b0 : ((wrap64 (a1 / 2)) == 0) = false := beq_eq_false_iff_ne.mpr c45
                have c45b1 : ((wrap64 (a1 / 2)) != 0) = true := bne_iff_ne.mpr c45
                replace H := Option.bind_eq_some_iff.mp H
                obtain ⟨⟨t267, t268, t269⟩, A460, H⟩ := H
                replace H : (customhouselaw04_NaturalSmall.l0 kj32 t253 (wrap64 (a0 / 2)) (wrap64 (a1 / 2)) t254 t255 t269 t267 t268 (wrap64 (a0 / 2)) (wrap64 (a1 / 2))) = some r := H
                have A46 := Aside0.mk A460
                clear A460
                have H' := Aside0.mk H
                clear H
                go_wp2_with (first | (go_at_call 17; (with_reducible refine (natural_Div.calls t254 t255 t267 t268 t269 _ A46.out ?side1).mono ?_); (case side1 => exact GOK.below HG.out (by repeat (first | (with_reducible first | exact HB.out | apply below_alloc | apply pw_below_drewN | apply below_drew1) | exact HB.out))); rintro e w47 ⟨rfl, hb⟩; have n0_ := Aside0.mk (below_step (by repeat (first | (with_reducible first | exact HB.out | apply below_alloc | apply pw_below_drewN | apply below_drew1) | exact HB.out)) hb); clear HB; have HB := n0_; clear n0_; (try clear hb); (try clear hb2); (try clear hk); (try clear hi)))
                repeat (go_quiet (first | (go_at_call 17; (with_reducible refine (natural_Div.calls t254 t255 t267 t268 t269 _ A46.out ?side1).mono ?_); (case side1 => exact GOK.below HG.out (by repeat (first | (with_reducible first | exact HB.out | apply below_alloc | apply pw_below_drewN | apply below_drew1) | exact HB.out))); rintro e w47 ⟨rfl, hb⟩; have n0_ := Aside0.mk (below_step (by repeat (first | (with_reducible first | exact HB.out | apply below_alloc | apply pw_below_drewN | apply below_drew1) | exact HB.out)) hb); clear HB; have HB := n0_; clear n0_; (try clear hb); (try clear hb2); (try clear hk); (try clear hi))); try go_wp2_with (first | (go_at_call 17; (with_reducible refine (natural_Div.calls t254 t255 t267 t268 t269 _ A46.out ?side1).mono ?_); (case side1 => exact GOK.below HG.out (by repeat (first | (with_reducible first | exact HB.out | apply below_alloc | apply pw_below_drewN | apply below_drew1) | exact HB.out))); rintro e w47 ⟨rfl, hb⟩; have n0_ := Aside0.mk (below_step (by repeat (first | (with_reducible first | exact HB.out | apply below_alloc | apply pw_below_drewN | apply below_drew1) | exact HB.out)) hb); clear HB; have HB := n0_; clear n0_; (try clear hb); (try clear hb2); (try clear hk); (try clear hi))))
                go_loopg [19, 20] kj32 (fun kq v19 v20 w' => ∃ (x19_3 : Int) (x20_3 : Int), v19 = .int .i64 x19_3 ∧ v20 = .int .i64 x20_3 ∧ Aside0 (customhouselaw04_NaturalSmall.l0 kq t253 (wrap64 (a0 / 2)) (wrap64 (a1 / 2)) t254 t255 t269 t267 t268 x19_3 x20_3 = some r) ∧ Aside0 (kq ≤ kj32) ∧ Aside0 (Below w.heap.size w w'))
                case atStart => exact ⟨((wrap64 (a0 / 2))), ((wrap64 (a1 / 2))), (by first | rfl | (simp; done) | (simp [*]; done)), (by first | rfl | (simp; done) | (simp [*]; done)), H', ⟨Nat.le_refl _⟩, ⟨by repeat (first | (with_reducible first | exact HB.out | apply below_alloc | apply pw_below_drewN | apply below_drew1) | exact HB.out)⟩⟩
                case round =>
                  clear H'
                  try clear c1
                  try clear c2
                  try clear p2
                  try clear c3
                  try clear c4
                  try clear p6
                  try clear c10
                  try clear c16
                  try clear c16b0
                  try clear c16b1
                  try clear c17
                  try clear c17b0
                  try clear c17b1
                  try clear c18
                  try clear c18b0
                  try clear c18b1
                  try clear c20
                  try clear c20b0
                  try clear c20b1
                  try clear c22
                  try clear c22b0
                  try clear c22b1
                  try clear c23
                  try clear c23b0
                  try clear c23b1
                  try clear c23b2
                  try clear c31
                  try clear c35
                  try clear c35b0
                  try clear c36
                  try clear c36b0
                  try clear c36b1
                  try clear c38
                  try clear c38b0
                  try clear c38b1
                  try clear c39
                  try clear c39b0
                  try clear c43
                  try clear c43b0
                  try clear c44
                  try clear c45
                  try clear c45b0
                  try clear c45b1
                  try clear p2
                  try clear p6
                  obtain ⟨x19_3, x20_3, rfl, rfl, HA, HK3, HB⟩ := hrel
                  cases gk with
                  | zero => exact absurd HA.out (by simp [customhouselaw04_NaturalSmall.l0])
                  | succ k3 =>
                    have H := HA.out
                    clear HA
                    simp only [customhouselaw04_NaturalSmall.l0] at H
                    by_cases c48 : x20_3 > 0
                    · rw [if_pos c48] at H
                      have c48b0 : decide (0 < x20_3) = true := decide_eq_true c48
                      clear c48
                      by_cases c49 : x20_3 = 0
                      · rw [if_pos c49] at H
                        exact absurd H (by simp)
                      · rw [if_neg c49] at H
                        have c49b0 : (x20_3 == 0) = false := beq_eq_false_iff_ne.mpr c49
                        have c49b1 : (x20_3 != 0) = true := bne_iff_ne.mpr c49
                        have H' := Aside0.mk H
                        clear H
                        go_wp2
                        repeat (go_quiet (fail); try go_wp2)
                        go_roundg k3
                        case measure => have := HJ8.out; have := HJ32.out; have := HK3.out; omega
                        case rel => exact ⟨(x20_3), (Int.tmod x19_3 x20_3), (by first | rfl | (simp; done) | (simp [*]; done)), (by first | rfl | (simp; done) | (simp [*]; done)), H', ⟨by have := HJ8.out; have := HJ32.out; have := HK3.out; omega⟩, ⟨by repeat (first | (with_reducible first | exact HB.out | apply below_alloc | apply pw_below_drewN | apply below_drew1) | exact HB.out)⟩⟩
                    · rw [if_neg c48] at H
                      have c48b0 : decide (0 < x20_3) = false := decide_eq_false c48
                      clear c48
                      replace H := Option.bind_eq_some_iff.mp H
                      obtain ⟨⟨t270, t271⟩, A500, H⟩ := H
                      replace H : (if t253 = true then (if t269 = 0 then (if t271 = 0 then (if (wrap64 (a1 / 2)) = 0 then (none) else ((natural_Of.f (wrap64 (Int.tdiv (wrap64 (a0 / 2)) (wrap64 (a1 / 2))))).bind fun t272 => (if t267.toList = t272.toList then ((natural_Of.f (Int.tmod (wrap64 (a0 / 2)) (wrap64 (a1 / 2)))).bind fun t273 => (if t268.toList = t273.toList then ((natural_Of.f x19_3).bind fun t274 => (some (t270.toList == t274.toList))) else (some false))) else (some false)))) else (some false)) else (some false)) else (some false)) = some r := H
                      have A50 := Aside0.mk A500
                      clear A500
                      by_cases c51 : t253 = true
                      · subst c51
                        have H1 : (if t269 = 0 then (if t271 = 0 then (if (wrap64 (a1 / 2)) = 0 then (none) else ((natural_Of.f (wrap64 (Int.tdiv (wrap64 (a0 / 2)) (wrap64 (a1 / 2))))).bind fun t272 => (if t267.toList = t272.toList then ((natural_Of.f (Int.tmod (wrap64 (a0 / 2)) (wrap64 (a1 / 2)))).bind fun t273 => (if t268.toList = t273.toList then ((natural_Of.f x19_3).bind fun t274 => (some (t270.toList == t274.toList))) else (some false))) else (some false)))) else (some false)) else (some false)) = some r := by rw [if_pos rfl] at H; exact H
                        clear H
                        have H := H1
                        clear H1
                        by_cases c52 : t269 = 0
                        · rw [if_pos c52] at H
                          have c52b0 : (t269 == 0) = true := beq_iff_eq.mpr c52
                          have c52b1 : (t269 != 0) = false := bne_eq_false_iff_eq.mpr c52
                          clear c52
                          by_cases c53 : t271 = 0
                          · rw [if_pos c53] at H
                            have c53b0 : (t271 == 0) = true := beq_iff_eq.mpr c53
                            have c53b1 : (t271 != 0) = false := bne_eq_false_iff_eq.mpr c53
                            clear c53
                            by_cases c54 : (wrap64 (a1 / 2)) = 0
                            · rw [if_pos c54] at H
                              exact absurd H (by simp)
                            · rw [if_neg c54] at H
                              have c54b0 : ((wrap64 (a1 / 2)) == 0) = false := beq_eq_false_iff_ne.mpr c54
                              have c54b1 : ((wrap64 (a1 / 2)) != 0) = true := bne_iff_ne.mpr c54
                              replace H := Option.bind_eq_some_iff.mp H
                              obtain ⟨t272, A550, H⟩ := H
                              replace H : (if t267.toList = t272.toList then ((natural_Of.f (Int.tmod (wrap64 (a0 / 2)) (wrap64 (a1 / 2)))).bind fun t273 => (if t268.toList = t273.toList then ((natural_Of.f x19_3).bind fun t274 => (some (t270.toList == t274.toList))) else (some false))) else (some false)) = some r := H
                              have A55 := Aside0.mk A550
                              clear A550
                              by_cases c56 : t267.toList = t272.toList
                              · rw [if_pos c56] at H
                                have c56b0 : (t267.toList == t272.toList) = true := beq_iff_eq.mpr c56
                                have c56b1 : (t267.toList != t272.toList) = false := bne_eq_false_iff_eq.mpr c56
                                clear c56
                                replace H := Option.bind_eq_some_iff.mp H
                                obtain ⟨t273, A570, H⟩ := H
                                replace H : (if t268.toList = t273.toList then ((natural_Of.f x19_3).bind fun t274 => (some (t270.toList == t274.toList))) else (some false)) = some r := H
                                have A57 := Aside0.mk A570
                                clear A570
                                by_cases c58 : t268.toList = t273.toList
                                · rw [if_pos c58] at H
                                  have c58b0 : (t268.toList == t273.toList) = true := beq_iff_eq.mpr c58
                                  have c58b1 : (t268.toList != t273.toList) = false := bne_eq_false_iff_eq.mpr c58
                                  clear c58
                                  replace H := Option.bind_eq_some_iff.mp H
                                  obtain ⟨t274, A590, H⟩ := H
                                  replace H : (some (t270.toList == t274.toList)) = some r := H
                                  have A59 := Aside0.mk A590
                                  clear A590
                                  obtain rfl := Option.some.inj H
                                  go_wp2_with (first | (go_at_call 16; (with_reducible refine (natural_Gcd.calls t254 t255 t270 t271 _ A50.out ?side1).mono ?_); (case side1 => exact GOK.below HG.out (by repeat (first | (with_reducible first | exact HB.out | apply below_alloc | apply pw_below_drewN | apply below_drew1) | exact HB.out))); rintro e w60 ⟨rfl, hb⟩; have n0_ := Aside0.mk (below_step (by repeat (first | (with_reducible first | exact HB.out | apply below_alloc | apply pw_below_drewN | apply below_drew1) | exact HB.out)) hb); clear HB; have HB := n0_; clear n0_; (try clear hb); (try clear hb2); (try clear hk); (try clear hi)) | (go_at_call 12; (with_reducible refine (natural_Of.calls (wrap64 (Int.tdiv (wrap64 (a0 / 2)) (wrap64 (a1 / 2)))) t272 _ A55.out ?side1).mono ?_); (case side1 => exact GOK.below HG.out (by repeat (first | (with_reducible first | exact HB.out | apply below_alloc | apply pw_below_drewN | apply below_drew1) | exact HB.out))); rintro e w61 ⟨rfl, hb⟩; have n0_ := Aside0.mk (below_step (by repeat (first | (with_reducible first | exact HB.out | apply below_alloc | apply pw_below_drewN | apply below_drew1) | exact HB.out)) hb); clear HB; have HB := n0_; clear n0_; (try clear hb); (try clear hb2); (try clear hk); (try clear hi)) | (go_at_call 12; (with_reducible refine (natural_Of.calls (Int.tmod (wrap64 (a0 / 2)) (wrap64 (a1 / 2))) t273 _ A57.out ?side1).mono ?_); (case side1 => exact GOK.below HG.out (by repeat (first | (with_reducible first | exact HB.out | apply below_alloc | apply pw_below_drewN | apply below_drew1) | exact HB.out))); rintro e w62 ⟨rfl, hb⟩; have n0_ := Aside0.mk (below_step (by repeat (first | (with_reducible first | exact HB.out | apply below_alloc | apply pw_below_drewN | apply below_drew1) | exact HB.out)) hb); clear HB; have HB := n0_; clear n0_; (try clear hb); (try clear hb2); (try clear hk); (try clear hi)) | (go_at_call 12; (with_reducible refine (natural_Of.calls x19_3 t274 _ A59.out ?side1).mono ?_); (case side1 => exact GOK.below HG.out (by repeat (first | (with_reducible first | exact HB.out | apply below_alloc | apply pw_below_drewN | apply below_drew1) | exact HB.out))); rintro e w63 ⟨rfl, hb⟩; have n0_ := Aside0.mk (below_step (by repeat (first | (with_reducible first | exact HB.out | apply below_alloc | apply pw_below_drewN | apply below_drew1) | exact HB.out)) hb); clear HB; have HB := n0_; clear n0_; (try clear hb); (try clear hb2); (try clear hk); (try clear hi)))
                                  repeat (go_quiet (first | (go_at_call 16; (with_reducible refine (natural_Gcd.calls t254 t255 t270 t271 _ A50.out ?side1).mono ?_); (case side1 => exact GOK.below HG.out (by repeat (first | (with_reducible first | exact HB.out | apply below_alloc | apply pw_below_drewN | apply below_drew1) | exact HB.out))); rintro e w60 ⟨rfl, hb⟩; have n0_ := Aside0.mk (below_step (by repeat (first | (with_reducible first | exact HB.out | apply below_alloc | apply pw_below_drewN | apply below_drew1) | exact HB.out)) hb); clear HB; have HB := n0_; clear n0_; (try clear hb); (try clear hb2); (try clear hk); (try clear hi)) | (go_at_call 12; (with_reducible refine (natural_Of.calls (wrap64 (Int.tdiv (wrap64 (a0 / 2)) (wrap64 (a1 / 2)))) t272 _ A55.out ?side1).mono ?_); (case side1 => exact GOK.below HG.out (by repeat (first | (with_reducible first | exact HB.out | apply below_alloc | apply pw_below_drewN | apply below_drew1) | exact HB.out))); rintro e w61 ⟨rfl, hb⟩; have n0_ := Aside0.mk (below_step (by repeat (first | (with_reducible first | exact HB.out | apply below_alloc | apply pw_below_drewN | apply below_drew1) | exact HB.out)) hb); clear HB; have HB := n0_; clear n0_; (try clear hb); (try clear hb2); (try clear hk); (try clear hi)) | (go_at_call 12; (with_reducible refine (natural_Of.calls (Int.tmod (wrap64 (a0 / 2)) (wrap64 (a1 / 2))) t273 _ A57.out ?side1).mono ?_); (case side1 => exact GOK.below HG.out (by repeat (first | (with_reducible first | exact HB.out | apply below_alloc | apply pw_below_drewN | apply below_drew1) | exact HB.out))); rintro e w62 ⟨rfl, hb⟩; have n0_ := Aside0.mk (below_step (by repeat (first | (with_reducible first | exact HB.out | apply below_alloc | apply pw_below_drewN | apply below_drew1) | exact HB.out)) hb); clear HB; have HB := n0_; clear n0_; (try clear hb); (try clear hb2); (try clear hk); (try clear hi)) | (go_at_call 12; (with_reducible refine (natural_Of.calls x19_3 t274 _ A59.out ?side1).mono ?_); (case side1 => exact GOK.below HG.out (by repeat (first | (with_reducible first | exact HB.out | apply below_alloc | apply pw_below_drewN | apply below_drew1) | exact HB.out))); rintro e w63 ⟨rfl, hb⟩; have n0_ := Aside0.mk (below_step (by repeat (first | (with_reducible first | exact HB.out | apply below_alloc | apply pw_below_drewN | apply below_drew1) | exact HB.out)) hb); clear HB; have HB := n0_; clear n0_; (try clear hb); (try clear hb2); (try clear hk); (try clear hi))); try go_wp2_with (first | (go_at_call 16; (with_reducible refine (natural_Gcd.calls t254 t255 t270 t271 _ A50.out ?side1).mono ?_); (case side1 => exact GOK.below HG.out (by repeat (first | (with_reducible first | exact HB.out | apply below_alloc | apply pw_below_drewN | apply below_drew1) | exact HB.out))); rintro e w60 ⟨rfl, hb⟩; have n0_ := Aside0.mk (below_step (by repeat (first | (with_reducible first | exact HB.out | apply below_alloc | apply pw_below_drewN | apply below_drew1) | exact HB.out)) hb); clear HB; have HB := n0_; clear n0_; (try clear hb); (try clear hb2); (try clear hk); (try clear hi)) | (go_at_call 12; (with_reducible refine (natural_Of.calls (wrap64 (Int.tdiv (wrap64 (a0 / 2)) (wrap64 (a1 / 2)))) t272 _ A55.out ?side1).mono ?_); (case side1 => exact GOK.below HG.out (by repeat (first | (with_reducible first | exact HB.out | apply below_alloc | apply pw_below_drewN | apply below_drew1) | exact HB.out))); rintro e w61 ⟨rfl, hb⟩; have n0_ := Aside0.mk (below_step (by repeat (first | (with_reducible first | exact HB.out | apply below_alloc | apply pw_below_drewN | apply below_drew1) | exact HB.out)) hb); clear HB; have HB := n0_; clear n0_; (try clear hb); (try clear hb2); (try clear hk); (try clear hi)) | (go_at_call 12; (with_reducible refine (natural_Of.calls (Int.tmod (wrap64 (a0 / 2)) (wrap64 (a1 / 2))) t273 _ A57.out ?side1).mono ?_); (case side1 => exact GOK.below HG.out (by repeat (first | (with_reducible first | exact HB.out | apply below_alloc | apply pw_below_drewN | apply below_drew1) | exact HB.out))); rintro e w62 ⟨rfl, hb⟩; have n0_ := Aside0.mk (below_step (by repeat (first | (with_reducible first | exact HB.out | apply below_alloc | apply pw_below_drewN | apply below_drew1) | exact HB.out)) hb); clear HB; have HB := n0_; clear n0_; (try clear hb); (try clear hb2); (try clear hk); (try clear hi)) | (go_at_call 12; (with_reducible refine (natural_Of.calls x19_3 t274 _ A59.out ?side1).mono ?_); (case side1 => exact GOK.below HG.out (by repeat (first | (with_reducible first | exact HB.out | apply below_alloc | apply pw_below_drewN | apply below_drew1) | exact HB.out))); rintro e w63 ⟨rfl, hb⟩; have n0_ := Aside0.mk (below_step (by repeat (first | (with_reducible first | exact HB.out | apply below_alloc | apply pw_below_drewN | apply below_drew1) | exact HB.out)) hb); clear HB; have HB := n0_; clear n0_; (try clear hb); (try clear hb2); (try clear hk); (try clear hi))))
                                  go_ret
                                  exact ⟨by first | rfl | (simp [errW_none, errW_some] <;> rfl) | (simp [*, errW_none, errW_some] <;> rfl), by repeat (first | (with_reducible first | exact HB.out | apply below_alloc | apply pw_below_drewN | apply below_drew1) | exact HB.out)⟩
                                · rw [if_neg c58] at H
                                  have c58b0 : (t268.toList == t273.toList) = false := beq_eq_false_iff_ne.mpr c58
                                  have c58b1 : (t268.toList != t273.toList) = true := bne_iff_ne.mpr c58
                                  obtain rfl := Option.some.inj H
                                  go_wp2_with (first | (go_at_call 16; (with_reducible refine (natural_Gcd.calls t254 t255 t270 t271 _ A50.out ?side1).mono ?_); (case side1 => exact GOK.below HG.out (by repeat (first | (with_reducible first | exact HB.out | apply below_alloc | apply pw_below_drewN | apply below_drew1) | exact HB.out))); rintro e w64 ⟨rfl, hb⟩; have n0_ := Aside0.mk (below_step (by repeat (first | (with_reducible first | exact HB.out | apply below_alloc | apply pw_below_drewN | apply below_drew1) | exact HB.out)) hb); clear HB; have HB := n0_; clear n0_; (try clear hb); (try clear hb2); (try clear hk); (try clear hi)) | (go_at_call 12; (with_reducible refine (natural_Of.calls (wrap64 (Int.tdiv (wrap64 (a0 / 2)) (wrap64 (a1 / 2)))) t272 _ A55.out ?side1).mono ?_); (case side1 => exact GOK.below HG.out (by repeat (first | (with_reducible first | exact HB.out | apply below_alloc | apply pw_below_drewN | apply below_drew1) | exact HB.out))); rintro e w65 ⟨rfl, hb⟩; have n0_ := Aside0.mk (below_step (by repeat (first | (with_reducible first | exact HB.out | apply below_alloc | apply pw_below_drewN | apply below_drew1) | exact HB.out)) hb); clear HB; have HB := n0_; clear n0_; (try clear hb); (try clear hb2); (try clear hk); (try clear hi)) | (go_at_call 12; (with_reducible refine (natural_Of.calls (Int.tmod (wrap64 (a0 / 2)) (wrap64 (a1 / 2))) t273 _ A57.out ?side1).mono ?_); (case side1 => exact GOK.below HG.out (by repeat (first | (with_reducible first | exact HB.out | apply below_alloc | apply pw_below_drewN | apply below_drew1) | exact HB.out))); rintro e w66 ⟨rfl, hb⟩; have n0_ := Aside0.mk (below_step (by repeat (first | (with_reducible first | exact HB.out | apply below_alloc | apply pw_below_drewN | apply below_drew1) | exact HB.out)) hb); clear HB; have HB := n0_; clear n0_; (try clear hb); (try clear hb2); (try clear hk); (try clear hi)))
                                  repeat (go_quiet (first | (go_at_call 16; (with_reducible refine (natural_Gcd.calls t254 t255 t270 t271 _ A50.out ?side1).mono ?_); (case side1 => exact GOK.below HG.out (by repeat (first | (with_reducible first | exact HB.out | apply below_alloc | apply pw_below_drewN | apply below_drew1) | exact HB.out))); rintro e w64 ⟨rfl, hb⟩; have n0_ := Aside0.mk (below_step (by repeat (first | (with_reducible first | exact HB.out | apply below_alloc | apply pw_below_drewN | apply below_drew1) | exact HB.out)) hb); clear HB; have HB := n0_; clear n0_; (try clear hb); (try clear hb2); (try clear hk); (try clear hi)) | (go_at_call 12; (with_reducible refine (natural_Of.calls (wrap64 (Int.tdiv (wrap64 (a0 / 2)) (wrap64 (a1 / 2)))) t272 _ A55.out ?side1).mono ?_); (case side1 => exact GOK.below HG.out (by repeat (first | (with_reducible first | exact HB.out | apply below_alloc | apply pw_below_drewN | apply below_drew1) | exact HB.out))); rintro e w65 ⟨rfl, hb⟩; have n0_ := Aside0.mk (below_step (by repeat (first | (with_reducible first | exact HB.out | apply below_alloc | apply pw_below_drewN | apply below_drew1) | exact HB.out)) hb); clear HB; have HB := n0_; clear n0_; (try clear hb); (try clear hb2); (try clear hk); (try clear hi)) | (go_at_call 12; (with_reducible refine (natural_Of.calls (Int.tmod (wrap64 (a0 / 2)) (wrap64 (a1 / 2))) t273 _ A57.out ?side1).mono ?_); (case side1 => exact GOK.below HG.out (by repeat (first | (with_reducible first | exact HB.out | apply below_alloc | apply pw_below_drewN | apply below_drew1) | exact HB.out))); rintro e w66 ⟨rfl, hb⟩; have n0_ := Aside0.mk (below_step (by repeat (first | (with_reducible first | exact HB.out | apply below_alloc | apply pw_below_drewN | apply below_drew1) | exact HB.out)) hb); clear HB; have HB := n0_; clear n0_; (try clear hb); (try clear hb2); (try clear hk); (try clear hi))); try go_wp2_with (first | (go_at_call 16; (with_reducible refine (natural_Gcd.calls t254 t255 t270 t271 _ A50.out ?side1).mono ?_); (case side1 => exact GOK.below HG.out (by repeat (first | (with_reducible first | exact HB.out | apply below_alloc | apply pw_below_drewN | apply below_drew1) | exact HB.out))); rintro e w64 ⟨rfl, hb⟩; have n0_ := Aside0.mk (below_step (by repeat (first | (with_reducible first | exact HB.out | apply below_alloc | apply pw_below_drewN | apply below_drew1) | exact HB.out)) hb); clear HB; have HB := n0_; clear n0_; (try clear hb); (try clear hb2); (try clear hk); (try clear hi)) | (go_at_call 12; (with_reducible refine (natural_Of.calls (wrap64 (Int.tdiv (wrap64 (a0 / 2)) (wrap64 (a1 / 2)))) t272 _ A55.out ?side1).mono ?_); (case side1 => exact GOK.below HG.out (by repeat (first | (with_reducible first | exact HB.out | apply below_alloc | apply pw_below_drewN | apply below_drew1) | exact HB.out))); rintro e w65 ⟨rfl, hb⟩; have n0_ := Aside0.mk (below_step (by repeat (first | (with_reducible first | exact HB.out | apply below_alloc | apply pw_below_drewN | apply below_drew1) | exact HB.out)) hb); clear HB; have HB := n0_; clear n0_; (try clear hb); (try clear hb2); (try clear hk); (try clear hi)) | (go_at_call 12; (with_reducible refine (natural_Of.calls (Int.tmod (wrap64 (a0 / 2)) (wrap64 (a1 / 2))) t273 _ A57.out ?side1).mono ?_); (case side1 => exact GOK.below HG.out (by repeat (first | (with_reducible first | exact HB.out | apply below_alloc | apply pw_below_drewN | apply below_drew1) | exact HB.out))); rintro e w66 ⟨rfl, hb⟩; have n0_ := Aside0.mk (below_step (by repeat (first | (with_reducible first | exact HB.out | apply below_alloc | apply pw_below_drewN | apply below_drew1) | exact HB.out)) hb); clear HB; have HB := n0_; clear n0_; (try clear hb); (try clear hb2); (try clear hk); (try clear hi))))
                                  go_ret
                                  exact ⟨by first | rfl | (simp [errW_none, errW_some] <;> rfl) | (simp [*, errW_none, errW_some] <;> rfl), by repeat (first | (with_reducible first | exact HB.out | apply below_alloc | apply pw_below_drewN | apply below_drew1) | exact HB.out)⟩
                              · rw [if_neg c56] at H
                                have c56b0 : (t267.toList == t272.toList) = false := beq_eq_false_iff_ne.mpr c56
                                have c56b1 : (t267.toList != t272.toList) = true := bne_iff_ne.mpr c56
                                obtain rfl := Option.some.inj H
                                go_wp2_with (first | (go_at_call 16; (with_reducible refine (natural_Gcd.calls t254 t255 t270 t271 _ A50.out ?side1).mono ?_); (case side1 => exact GOK.below HG.out (by repeat (first | (with_reducible first | exact HB.out | apply below_alloc | apply pw_below_drewN | apply below_drew1) | exact HB.out))); rintro e w67 ⟨rfl, hb⟩; have n0_ := Aside0.mk (below_step (by repeat (first | (with_reducible first | exact HB.out | apply below_alloc | apply pw_below_drewN | apply below_drew1) | exact HB.out)) hb); clear HB; have HB := n0_; clear n0_; (try clear hb); (try clear hb2); (try clear hk); (try clear hi)) | (go_at_call 12; (with_reducible refine (natural_Of.calls (wrap64 (Int.tdiv (wrap64 (a0 / 2)) (wrap64 (a1 / 2)))) t272 _ A55.out ?side1).mono ?_); (case side1 => exact GOK.below HG.out (by repeat (first | (with_reducible first | exact HB.out | apply below_alloc | apply pw_below_drewN | apply below_drew1) | exact HB.out))); rintro e w68 ⟨rfl, hb⟩; have n0_ := Aside0.mk (below_step (by repeat (first | (with_reducible first | exact HB.out | apply below_alloc | apply pw_below_drewN | apply below_drew1) | exact HB.out)) hb); clear HB; have HB := n0_; clear n0_; (try clear hb); (try clear hb2); (try clear hk); (try clear hi)))
                                repeat (go_quiet (first | (go_at_call 16; (with_reducible refine (natural_Gcd.calls t254 t255 t270 t271 _ A50.out ?side1).mono ?_); (case side1 => exact GOK.below HG.out (by repeat (first | (with_reducible first | exact HB.out | apply below_alloc | apply pw_below_drewN | apply below_drew1) | exact HB.out))); rintro e w67 ⟨rfl, hb⟩; have n0_ := Aside0.mk (below_step (by repeat (first | (with_reducible first | exact HB.out | apply below_alloc | apply pw_below_drewN | apply below_drew1) | exact HB.out)) hb); clear HB; have HB := n0_; clear n0_; (try clear hb); (try clear hb2); (try clear hk); (try clear hi)) | (go_at_call 12; (with_reducible refine (natural_Of.calls (wrap64 (Int.tdiv (wrap64 (a0 / 2)) (wrap64 (a1 / 2)))) t272 _ A55.out ?side1).mono ?_); (case side1 => exact GOK.below HG.out (by repeat (first | (with_reducible first | exact HB.out | apply below_alloc | apply pw_below_drewN | apply below_drew1) | exact HB.out))); rintro e w68 ⟨rfl, hb⟩; have n0_ := Aside0.mk (below_step (by repeat (first | (with_reducible first | exact HB.out | apply below_alloc | apply pw_below_drewN | apply below_drew1) | exact HB.out)) hb); clear HB; have HB := n0_; clear n0_; (try clear hb); (try clear hb2); (try clear hk); (try clear hi))); try go_wp2_with (first | (go_at_call 16; (with_reducible refine (natural_Gcd.calls t254 t255 t270 t271 _ A50.out ?side1).mono ?_); (case side1 => exact GOK.below HG.out (by repeat (first | (with_reducible first | exact HB.out | apply below_alloc | apply pw_below_drewN | apply below_drew1) | exact HB.out))); rintro e w67 ⟨rfl, hb⟩; have n0_ := Aside0.mk (below_step (by repeat (first | (with_reducible first | exact HB.out | apply below_alloc | apply pw_below_drewN | apply below_drew1) | exact HB.out)) hb); clear HB; have HB := n0_; clear n0_; (try clear hb); (try clear hb2); (try clear hk); (try clear hi)) | (go_at_call 12; (with_reducible refine (natural_Of.calls (wrap64 (Int.tdiv (wrap64 (a0 / 2)) (wrap64 (a1 / 2)))) t272 _ A55.out ?side1).mono ?_); (case side1 => exact GOK.below HG.out (by repeat (first | (with_reducible first | exact HB.out | apply below_alloc | apply pw_below_drewN | apply below_drew1) | exact HB.out))); rintro e w68 ⟨rfl, hb⟩; have n0_ := Aside0.mk (below_step (by repeat (first | (with_reducible first | exact HB.out | apply below_alloc | apply pw_below_drewN | apply below_drew1) | exact HB.out)) hb); clear HB; have HB := n0_; clear n0_; (try clear hb); (try clear hb2); (try clear hk); (try clear hi))))
                                go_ret
                                exact ⟨by first | rfl | (simp [errW_none, errW_some] <;> rfl) | (simp [*, errW_none, errW_some] <;> rfl), by repeat (first | (with_reducible first | exact HB.out | apply below_alloc | apply pw_below_drewN | apply below_drew1) | exact HB.out)⟩
                          · rw [if_neg c53] at H
                            have c53b0 : (t271 == 0) = false := beq_eq_false_iff_ne.mpr c53
                            have c53b1 : (t271 != 0) = true := bne_iff_ne.mpr c53
                            obtain rfl := Option.some.inj H
                            go_wp2_with (first | (go_at_call 16; (with_reducible refine (natural_Gcd.calls t254 t255 t270 t271 _ A50.out ?side1).mono ?_); (case side1 => exact GOK.below HG.out (by repeat (first | (with_reducible first | exact HB.out | apply below_alloc | apply pw_below_drewN | apply below_drew1) | exact HB.out))); rintro e w69 ⟨rfl, hb⟩; have n0_ := Aside0.mk (below_step (by repeat (first | (with_reducible first | exact HB.out | apply below_alloc | apply pw_below_drewN | apply below_drew1) | exact HB.out)) hb); clear HB; have HB := n0_; clear n0_; (try clear hb); (try clear hb2); (try clear hk); (try clear hi)))
                            repeat (go_quiet (first | (go_at_call 16; (with_reducible refine (natural_Gcd.calls t254 t255 t270 t271 _ A50.out ?side1).mono ?_); (case side1 => exact GOK.below HG.out (by repeat (first | (with_reducible first | exact HB.out | apply below_alloc | apply pw_below_drewN | apply below_drew1) | exact HB.out))); rintro e w69 ⟨rfl, hb⟩; have n0_ := Aside0.mk (below_step (by repeat (first | (with_reducible first | exact HB.out | apply below_alloc | apply pw_below_drewN | apply below_drew1) | exact HB.out)) hb); clear HB; have HB := n0_; clear n0_; (try clear hb); (try clear hb2); (try clear hk); (try clear hi))); try go_wp2_with (first | (go_at_call 16; (with_reducible refine (natural_Gcd.calls t254 t255 t270 t271 _ A50.out ?side1).mono ?_); (case side1 => exact GOK.below HG.out (by repeat (first | (with_reducible first | exact HB.out | apply below_alloc | apply pw_below_drewN | apply below_drew1) | exact HB.out))); rintro e w69 ⟨rfl, hb⟩; have n0_ := Aside0.mk (below_step (by repeat (first | (with_reducible first | exact HB.out | apply below_alloc | apply pw_below_drewN | apply below_drew1) | exact HB.out)) hb); clear HB; have HB := n0_; clear n0_; (try clear hb); (try clear hb2); (try clear hk); (try clear hi))))
                            go_ret
                            exact ⟨by first | rfl | (simp [errW_none, errW_some] <;> rfl) | (simp [*, errW_none, errW_some] <;> rfl), by repeat (first | (with_reducible first | exact HB.out | apply below_alloc | apply pw_below_drewN | apply below_drew1) | exact HB.out)⟩
                        · rw [if_neg c52] at H
                          have c52b0 : (t269 == 0) = false := beq_eq_false_iff_ne.mpr c52
                          have c52b1 : (t269 != 0) = true := bne_iff_ne.mpr c52
                          obtain rfl := Option.some.inj H
                          go_wp2_with (first | (go_at_call 16; (with_reducible refine (natural_Gcd.calls t254 t255 t270 t271 _ A50.out ?side1).mono ?_); (case side1 => exact GOK.below HG.out (by repeat (first | (with_reducible first | exact HB.out | apply below_alloc | apply pw_below_drewN | apply below_drew1) | exact HB.out))); rintro e w70 ⟨rfl, hb⟩; have n0_ := Aside0.mk (below_step (by repeat (first | (with_reducible first | exact HB.out | apply below_alloc | apply pw_below_drewN | apply below_drew1) | exact HB.out)) hb); clear HB; have HB := n0_; clear n0_; (try clear hb); (try clear hb2); (try clear hk); (try clear hi)))
                          repeat (go_quiet (first | (go_at_call 16; (with_reducible refine (natural_Gcd.calls t254 t255 t270 t271 _ A50.out ?side1).mono ?_); (case side1 => exact GOK.below HG.out (by repeat (first | (with_reducible first | exact HB.out | apply below_alloc | apply pw_below_drewN | apply below_drew1) | exact HB.out))); rintro e w70 ⟨rfl, hb⟩; have n0_ := Aside0.mk (below_step (by repeat (first | (with_reducible first | exact HB.out | apply below_alloc | apply pw_below_drewN | apply below_drew1) | exact HB.out)) hb); clear HB; have HB := n0_; clear n0_; (try clear hb); (try clear hb2); (try clear hk); (try clear hi))); try go_wp2_with (first | (go_at_call 16; (with_reducible refine (natural_Gcd.calls t254 t255 t270 t271 _ A50.out ?side1).mono ?_); (case side1 => exact GOK.below HG.out (by repeat (first | (with_reducible first | exact HB.out | apply below_alloc | apply pw_below_drewN | apply below_drew1) | exact HB.out))); rintro e w70 ⟨rfl, hb⟩; have n0_ := Aside0.mk (below_step (by repeat (first | (with_reducible first | exact HB.out | apply below_alloc | apply pw_below_drewN | apply below_drew1) | exact HB.out)) hb); clear HB; have HB := n0_; clear n0_; (try clear hb); (try clear hb2); (try clear hk); (try clear hi))))
                          go_ret
                          exact ⟨by first | rfl | (simp [errW_none, errW_some] <;> rfl) | (simp [*, errW_none, errW_some] <;> rfl), by repeat (first | (with_reducible first | exact HB.out | apply below_alloc | apply pw_below_drewN | apply below_drew1) | exact HB.out)⟩
                      · replace c51 := Bool.eq_false_iff.mpr c51
                        subst c51
                        have H1 : (some false) = some r := by rw [if_neg (show ¬ (false = true) by decide)] at H; exact H
                        clear H
                        have H := H1
                        clear H1
                        obtain rfl := Option.some.inj H
                        go_wp2_with (first | (go_at_call 16; (with_reducible refine (natural_Gcd.calls t254 t255 t270 t271 _ A50.out ?side1).mono ?_); (case side1 => exact GOK.below HG.out (by repeat (first | (with_reducible first | exact HB.out | apply below_alloc | apply pw_below_drewN | apply below_drew1) | exact HB.out))); rintro e w71 ⟨rfl, hb⟩; have n0_ := Aside0.mk (below_step (by repeat (first | (with_reducible first | exact HB.out | apply below_alloc | apply pw_below_drewN | apply below_drew1) | exact HB.out)) hb); clear HB; have HB := n0_; clear n0_; (try clear hb); (try clear hb2); (try clear hk); (try clear hi)))
                        repeat (go_quiet (first | (go_at_call 16; (with_reducible refine (natural_Gcd.calls t254 t255 t270 t271 _ A50.out ?side1).mono ?_); (case side1 => exact GOK.below HG.out (by repeat (first | (with_reducible first | exact HB.out | apply below_alloc | apply pw_below_drewN | apply below_drew1) | exact HB.out))); rintro e w71 ⟨rfl, hb⟩; have n0_ := Aside0.mk (below_step (by repeat (first | (with_reducible first | exact HB.out | apply below_alloc | apply pw_below_drewN | apply below_drew1) | exact HB.out)) hb); clear HB; have HB := n0_; clear n0_; (try clear hb); (try clear hb2); (try clear hk); (try clear hi))); try go_wp2_with (first | (go_at_call 16; (with_reducible refine (natural_Gcd.calls t254 t255 t270 t271 _ A50.out ?side1).mono ?_); (case side1 => exact GOK.below HG.out (by repeat (first | (with_reducible first | exact HB.out | apply below_alloc | apply pw_below_drewN | apply below_drew1) | exact HB.out))); rintro e w71 ⟨rfl, hb⟩; have n0_ := Aside0.mk (below_step (by repeat (first | (with_reducible first | exact HB.out | apply below_alloc | apply pw_below_drewN | apply below_drew1) | exact HB.out)) hb); clear HB; have HB := n0_; clear n0_; (try clear hb); (try clear hb2); (try clear hk); (try clear hi))))
                        go_ret
                        exact ⟨by first | rfl | (simp [errW_none, errW_some] <;> rfl) | (simp [*, errW_none, errW_some] <;> rfl), by repeat (first | (with_reducible first | exact HB.out | apply below_alloc | apply pw_below_drewN | apply below_drew1) | exact HB.out)⟩

end Go.Proofs.YtdojfnjgipeogaaDoor.La
