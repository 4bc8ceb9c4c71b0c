-- PRINTED by print.py (a twelfth state) out of the translation. Not trusted: Lean checks it.
import Derived.Test.YtdojfnjgipeogaaDoorLax0
namespace Go.Proofs.YtdojfnjgipeogaaDoor.La
open Go.RowKit Go.Proofs.YtdojfnjgipeogaaDoorW.PrintWords Go.Proofs.YtdojfnjgipeogaaDoorW.PrintLast Go.Proofs.YtdojfnjgipeogaaDoorW.PrintMore
attribute [local go_sem] max2_int min2_int max_two min_two max_three min_three max_four min_four   -- for this text's walks alone
set_option linter.unusedVariables false
set_option linter.unusedSimpArgs false

/-! ### customhouselaw04_head: function 11 -/
def customhouselaw04_head.j0 : Nat → ByteArray → Int → ByteArray → Int → Int → Bool → Option (Bool)
  | 0, _, _, _, _, _, _ => none
  | k + 1, x11, x12, x13, x14, x16, x17 => if x17 = true then (if x12 = 0 then (if x11.toList = ([54] : List UInt8) then (if x14 = 0 then (if x13.toList = ([48] : List UInt8) then (if x16 = 10 then ((natural_Of.f (-1)).bind fun t117 => (if t117.toList = ([] : List UInt8) then ((natural_Is.f (⟨#[48]⟩ : ByteArray)).bind fun t118 => (if t118 = true then ((natural_Is.f (⟨#[48, 48]⟩ : ByteArray)).bind fun t119 => (if t119 = true then (some false) else ((natural_Is.f (⟨#[]⟩ : ByteArray)).bind fun t120 => (if t120 = true then (some false) else ((natural_Is.f (⟨#[49, 50]⟩ : ByteArray)).bind fun t121 => (some t121)))))) else (some false))) else (some false))) else (some false)) else (some false)) else (some false)) else (some false)) else (some false)) else (some false)
def customhouselaw04_head.f (k : Nat)  : Option (Bool) := (natural_Mul.f (⟨#[49, 50]⟩ : ByteArray) (⟨#[49, 50]⟩ : ByteArray)).bind fun bt101 => ((natural_Sub.f (⟨#[53]⟩ : ByteArray) (⟨#[55]⟩ : ByteArray)).bind fun bt103 => ((natural_Div.f (⟨#[49, 48, 48]⟩ : ByteArray) (⟨#[55]⟩ : ByteArray)).bind fun bt105 => ((natural_Div.f (⟨#[55]⟩ : ByteArray) (⟨#[48]⟩ : ByteArray)).bind fun bt108 => ((natural_Gcd.f (⟨#[49, 50]⟩ : ByteArray) (⟨#[49, 56]⟩ : ByteArray)).bind fun bt111 => ((natural_Gcd.f (⟨#[48]⟩ : ByteArray) (⟨#[48]⟩ : ByteArray)).bind fun bt113 => ((natural_Int.f (⟨#[57, 50, 50, 51, 51, 55, 50, 48, 51, 54, 56, 53, 52, 55, 55, 53, 56, 48, 56]⟩ : ByteArray)).bind fun bt115 => (if bt101.2 = 0 then (if bt101.1.toList = ([49, 52, 52] : List UInt8) then (if bt103.2 = 10 then (if bt105.2.2 = 0 then (if bt105.1.toList = ([49, 52] : List UInt8) then (if bt105.2.1.toList = ([50] : List UInt8) then (customhouselaw04_head.j0 k bt111.1 bt111.2 bt113.1 bt113.2 bt115.2 (bt108.2.2 == 15)) else (customhouselaw04_head.j0 k bt111.1 bt111.2 bt113.1 bt113.2 bt115.2 false)) else (customhouselaw04_head.j0 k bt111.1 bt111.2 bt113.1 bt113.2 bt115.2 false)) else (customhouselaw04_head.j0 k bt111.1 bt111.2 bt113.1 bt113.2 bt115.2 false)) else (customhouselaw04_head.j0 k bt111.1 bt111.2 bt113.1 bt113.2 bt115.2 false)) else (customhouselaw04_head.j0 k bt111.1 bt111.2 bt113.1 bt113.2 bt115.2 false)) else (customhouselaw04_head.j0 k bt111.1 bt111.2 bt113.1 bt113.2 bt115.2 false))))))))
theorem customhouselaw04_head.mono_l : ∀ k, (∀ y0 y1 y2 y3 y4 y5, LeO (customhouselaw04_head.j0 k y0 y1 y2 y3 y4 y5) (customhouselaw04_head.j0 (k + 1) y0 y1 y2 y3 y4 y5))
  | 0 => fun _ _ _ _ _ _ r h => by simp [customhouselaw04_head.j0] at h
  | k + 1 => by
    have ih0 := customhouselaw04_head.mono_l k
    · intro y0 y1 y2 y3 y4 y5
      unfold customhouselaw04_head.j0
      repeat' first
      | (with_reducible exact ih0 _ _ _ _ _ _)
      | (with_reducible exact LeO.refl _)
      | (with_reducible exact LeO.none _)
      | (with_reducible refine LeO.ite ?_ ?_)
      | (with_reducible refine LeO.bind ?_ (fun _ => ?_))
      | exact ih0 _ _ _ _ _ _
      | exact LeO.none _
      | refine LeO.ite ?_ ?_
      | refine LeO.bind ?_ (fun _ => ?_)
theorem customhouselaw04_head.mono : ∀ k, LeO (customhouselaw04_head.f k ) (customhouselaw04_head.f (k + 1) ) := by
  intro  k
  have ih0 := customhouselaw04_head.mono_l k
  unfold customhouselaw04_head.f
  repeat' first
      | (with_reducible exact ih0 _ _ _ _ _ _)
      | (with_reducible exact LeO.refl _)
      | (with_reducible exact LeO.none _)
      | (with_reducible refine LeO.ite ?_ ?_)
      | (with_reducible refine LeO.bind ?_ (fun _ => ?_))
      | exact ih0 _ _ _ _ _ _
      | exact LeO.none _
      | refine LeO.ite ?_ ?_
      | refine LeO.bind ?_ (fun _ => ?_)
set_option maxHeartbeats 8000000 in
set_option maxRecDepth 100000 in
theorem customhouselaw04_head.calls (k : Nat)  (r : Bool) (w : World) (h : customhouselaw04_head.f k  = some r) (hG : GOK w) :
    Calls Tryd.prog 11 #[] w fun e w' => e = .returned (.bool r) ∧ Below w.heap.size w w' := by
  have HB := Aside0.mk (Below.refl w.heap.size w)
  have H : ((natural_Mul.f (⟨#[49, 50]⟩ : ByteArray) (⟨#[49, 50]⟩ : ByteArray)).bind fun bt101 => ((natural_Sub.f (⟨#[53]⟩ : ByteArray) (⟨#[55]⟩ : ByteArray)).bind fun bt103 => ((natural_Div.f (⟨#[49, 48, 48]⟩ : ByteArray) (⟨#[55]⟩ : ByteArray)).bind fun bt105 => ((natural_Div.f (⟨#[55]⟩ : ByteArray) (⟨#[48]⟩ : ByteArray)).bind fun bt108 => ((natural_Gcd.f (⟨#[49, 50]⟩ : ByteArray) (⟨#[49, 56]⟩ : ByteArray)).bind fun bt111 => ((natural_Gcd.f (⟨#[48]⟩ : ByteArray) (⟨#[48]⟩ : ByteArray)).bind fun bt113 => ((natural_Int.f (⟨#[57, 50, 50, 51, 51, 55, 50, 48, 51, 54, 56, 53, 52, 55, 55, 53, 56, 48, 56]⟩ : ByteArray)).bind fun bt115 => (if bt101.2 = 0 then (if bt101.1.toList = ([49, 52, 52] : List UInt8) then (if bt103.2 = 10 then (if bt105.2.2 = 0 then (if bt105.1.toList = ([49, 52] : List UInt8) then (if bt105.2.1.toList = ([50] : List UInt8) then (customhouselaw04_head.j0 k bt111.1 bt111.2 bt113.1 bt113.2 bt115.2 (bt108.2.2 == 15)) else (customhouselaw04_head.j0 k bt111.1 bt111.2 bt113.1 bt113.2 bt115.2 false)) else (customhouselaw04_head.j0 k bt111.1 bt111.2 bt113.1 bt113.2 bt115.2 false)) else (customhouselaw04_head.j0 k bt111.1 bt111.2 bt113.1 bt113.2 bt115.2 false)) else (customhouselaw04_head.j0 k bt111.1 bt111.2 bt113.1 bt113.2 bt115.2 false)) else (customhouselaw04_head.j0 k bt111.1 bt111.2 bt113.1 bt113.2 bt115.2 false)) else (customhouselaw04_head.j0 k bt111.1 bt111.2 bt113.1 bt113.2 bt115.2 false))))))))) = some r := h
  clear h
  have HG := Aside0.mk hG
  clear hG
  replace H := Option.bind_eq_some_iff.mp H
  obtain ⟨⟨t101, t102⟩, A10, H⟩ := H
  replace H : ((natural_Sub.f (⟨#[53]⟩ : ByteArray) (⟨#[55]⟩ : ByteArray)).bind fun bt103 => ((natural_Div.f (⟨#[49, 48, 48]⟩ : ByteArray) (⟨#[55]⟩ : ByteArray)).bind fun bt105 => ((natural_Div.f (⟨#[55]⟩ : ByteArray) (⟨#[48]⟩ : ByteArray)).bind fun bt108 => ((natural_Gcd.f (⟨#[49, 50]⟩ : ByteArray) (⟨#[49, 56]⟩ : ByteArray)).bind fun bt111 => ((natural_Gcd.f (⟨#[48]⟩ : ByteArray) (⟨#[48]⟩ : ByteArray)).bind fun bt113 => ((natural_Int.f (⟨#[57, 50, 50, 51, 51, 55, 50, 48, 51, 54, 56, 53, 52, 55, 55, 53, 56, 48, 56]⟩ : ByteArray)).bind fun bt115 => (if t102 = 0 then (if t101.toList = ([49, 52, 52] : List UInt8) then (if bt103.2 = 10 then (if bt105.2.2 = 0 then (if bt105.1.toList = ([49, 52] : List UInt8) then (if bt105.2.1.toList = ([50] : List UInt8) then (customhouselaw04_head.j0 k bt111.1 bt111.2 bt113.1 bt113.2 bt115.2 (bt108.2.2 == 15)) else (customhouselaw04_head.j0 k bt111.1 bt111.2 bt113.1 bt113.2 bt115.2 false)) else (customhouselaw04_head.j0 k bt111.1 bt111.2 bt113.1 bt113.2 bt115.2 false)) else (customhouselaw04_head.j0 k bt111.1 bt111.2 bt113.1 bt113.2 bt115.2 false)) else (customhouselaw04_head.j0 k bt111.1 bt111.2 bt113.1 bt113.2 bt115.2 false)) else (customhouselaw04_head.j0 k bt111.1 bt111.2 bt113.1 bt113.2 bt115.2 false)) else (customhouselaw04_head.j0 k bt111.1 bt111.2 bt113.1 bt113.2 bt115.2 false)))))))) = some r := H
  have A1 := Aside0.mk A10
  clear A10
  replace H := Option.bind_eq_some_iff.mp H
  obtain ⟨⟨t103, t104⟩, A20, H⟩ := H
  replace H : ((natural_Div.f (⟨#[49, 48, 48]⟩ : ByteArray) (⟨#[55]⟩ : ByteArray)).bind fun bt105 => ((natural_Div.f (⟨#[55]⟩ : ByteArray) (⟨#[48]⟩ : ByteArray)).bind fun bt108 => ((natural_Gcd.f (⟨#[49, 50]⟩ : ByteArray) (⟨#[49, 56]⟩ : ByteArray)).bind fun bt111 => ((natural_Gcd.f (⟨#[48]⟩ : ByteArray) (⟨#[48]⟩ : ByteArray)).bind fun bt113 => ((natural_Int.f (⟨#[57, 50, 50, 51, 51, 55, 50, 48, 51, 54, 56, 53, 52, 55, 55, 53, 56, 48, 56]⟩ : ByteArray)).bind fun bt115 => (if t102 = 0 then (if t101.toList = ([49, 52, 52] : List UInt8) then (if t104 = 10 then (if bt105.2.2 = 0 then (if bt105.1.toList = ([49, 52] : List UInt8) then (if bt105.2.1.toList = ([50] : List UInt8) then (customhouselaw04_head.j0 k bt111.1 bt111.2 bt113.1 bt113.2 bt115.2 (bt108.2.2 == 15)) else (customhouselaw04_head.j0 k bt111.1 bt111.2 bt113.1 bt113.2 bt115.2 false)) else (customhouselaw04_head.j0 k bt111.1 bt111.2 bt113.1 bt113.2 bt115.2 false)) else (customhouselaw04_head.j0 k bt111.1 bt111.2 bt113.1 bt113.2 bt115.2 false)) else (customhouselaw04_head.j0 k bt111.1 bt111.2 bt113.1 bt113.2 bt115.2 false)) else (customhouselaw04_head.j0 k bt111.1 bt111.2 bt113.1 bt113.2 bt115.2 false)) else (customhouselaw04_head.j0 k bt111.1 bt111.2 bt113.1 bt113.2 bt115.2 false))))))) = some r := H
  have A2 := Aside0.mk A20
  clear A20
  replace H := Option.bind_eq_some_iff.mp H
  obtain ⟨⟨t105, t106, t107⟩, A30, H⟩ := H
  replace H : ((natural_Div.f (⟨#[55]⟩ : ByteArray) (⟨#[48]⟩ : ByteArray)).bind fun bt108 => ((natural_Gcd.f (⟨#[49, 50]⟩ : ByteArray) (⟨#[49, 56]⟩ : ByteArray)).bind fun bt111 => ((natural_Gcd.f (⟨#[48]⟩ : ByteArray) (⟨#[48]⟩ : ByteArray)).bind fun bt113 => ((natural_Int.f (⟨#[57, 50, 50, 51, 51, 55, 50, 48, 51, 54, 56, 53, 52, 55, 55, 53, 56, 48, 56]⟩ : ByteArray)).bind fun bt115 => (if t102 = 0 then (if t101.toList = ([49, 52, 52] : List UInt8) then (if t104 = 10 then (if t107 = 0 then (if t105.toList = ([49, 52] : List UInt8) then (if t106.toList = ([50] : List UInt8) then (customhouselaw04_head.j0 k bt111.1 bt111.2 bt113.1 bt113.2 bt115.2 (bt108.2.2 == 15)) else (customhouselaw04_head.j0 k bt111.1 bt111.2 bt113.1 bt113.2 bt115.2 false)) else (customhouselaw04_head.j0 k bt111.1 bt111.2 bt113.1 bt113.2 bt115.2 false)) else (customhouselaw04_head.j0 k bt111.1 bt111.2 bt113.1 bt113.2 bt115.2 false)) else (customhouselaw04_head.j0 k bt111.1 bt111.2 bt113.1 bt113.2 bt115.2 false)) else (customhouselaw04_head.j0 k bt111.1 bt111.2 bt113.1 bt113.2 bt115.2 false)) else (customhouselaw04_head.j0 k bt111.1 bt111.2 bt113.1 bt113.2 bt115.2 false)))))) = some r := H
  have A3 := Aside0.mk A30
  clear A30
  replace H := Option.bind_eq_some_iff.mp H
  obtain ⟨⟨t108, t109, t110⟩, A40, H⟩ := H
  replace H : ((natural_Gcd.f (⟨#[49, 50]⟩ : ByteArray) (⟨#[49, 56]⟩ : ByteArray)).bind fun bt111 => ((natural_Gcd.f (⟨#[48]⟩ : ByteArray) (⟨#[48]⟩ : ByteArray)).bind fun bt113 => ((natural_Int.f (⟨#[57, 50, 50, 51, 51, 55, 50, 48, 51, 54, 56, 53, 52, 55, 55, 53, 56, 48, 56]⟩ : ByteArray)).bind fun bt115 => (if t102 = 0 then (if t101.toList = ([49, 52, 52] : List UInt8) then (if t104 = 10 then (if t107 = 0 then (if t105.toList = ([49, 52] : List UInt8) then (if t106.toList = ([50] : List UInt8) then (customhouselaw04_head.j0 k bt111.1 bt111.2 bt113.1 bt113.2 bt115.2 (t110 == 15)) else (customhouselaw04_head.j0 k bt111.1 bt111.2 bt113.1 bt113.2 bt115.2 false)) else (customhouselaw04_head.j0 k bt111.1 bt111.2 bt113.1 bt113.2 bt115.2 false)) else (customhouselaw04_head.j0 k bt111.1 bt111.2 bt113.1 bt113.2 bt115.2 false)) else (customhouselaw04_head.j0 k bt111.1 bt111.2 bt113.1 bt113.2 bt115.2 false)) else (customhouselaw04_head.j0 k bt111.1 bt111.2 bt113.1 bt113.2 bt115.2 false)) else (customhouselaw04_head.j0 k bt111.1 bt111.2 bt113.1 bt113.2 bt115.2 false))))) = some r := H
  have A4 := Aside0.mk A40
  clear A40
  replace H := Option.bind_eq_some_iff.mp H
  obtain ⟨⟨t111, t112⟩, A50, H⟩ := H
  replace H : ((natural_Gcd.f (⟨#[48]⟩ : ByteArray) (⟨#[48]⟩ : ByteArray)).bind fun bt113 => ((natural_Int.f (⟨#[57, 50, 50, 51, 51, 55, 50, 48, 51, 54, 56, 53, 52, 55, 55, 53, 56, 48, 56]⟩ : ByteArray)).bind fun bt115 => (if t102 = 0 then (if t101.toList = ([49, 52, 52] : List UInt8) then (if t104 = 10 then (if t107 = 0 then (if t105.toList = ([49, 52] : List UInt8) then (if t106.toList = ([50] : List UInt8) then (customhouselaw04_head.j0 k t111 t112 bt113.1 bt113.2 bt115.2 (t110 == 15)) else (customhouselaw04_head.j0 k t111 t112 bt113.1 bt113.2 bt115.2 false)) else (customhouselaw04_head.j0 k t111 t112 bt113.1 bt113.2 bt115.2 false)) else (customhouselaw04_head.j0 k t111 t112 bt113.1 bt113.2 bt115.2 false)) else (customhouselaw04_head.j0 k t111 t112 bt113.1 bt113.2 bt115.2 false)) else (customhouselaw04_head.j0 k t111 t112 bt113.1 bt113.2 bt115.2 false)) else (customhouselaw04_head.j0 k t111 t112 bt113.1 bt113.2 bt115.2 false)))) = some r := H
  have A5 := Aside0.mk A50
  clear A50
  replace H := Option.bind_eq_some_iff.mp H
  obtain ⟨⟨t113, t114⟩, A60, H⟩ := H
  replace H : ((natural_Int.f (⟨#[57, 50, 50, 51, 51, 55, 50, 48, 51, 54, 56, 53, 52, 55, 55, 53, 56, 48, 56]⟩ : ByteArray)).bind fun bt115 => (if t102 = 0 then (if t101.toList = ([49, 52, 52] : List UInt8) then (if t104 = 10 then (if t107 = 0 then (if t105.toList = ([49, 52] : List UInt8) then (if t106.toList = ([50] : List UInt8) then (customhouselaw04_head.j0 k t111 t112 t113 t114 bt115.2 (t110 == 15)) else (customhouselaw04_head.j0 k t111 t112 t113 t114 bt115.2 false)) else (customhouselaw04_head.j0 k t111 t112 t113 t114 bt115.2 false)) else (customhouselaw04_head.j0 k t111 t112 t113 t114 bt115.2 false)) else (customhouselaw04_head.j0 k t111 t112 t113 t114 bt115.2 false)) else (customhouselaw04_head.j0 k t111 t112 t113 t114 bt115.2 false)) else (customhouselaw04_head.j0 k t111 t112 t113 t114 bt115.2 false))) = some r := H
  have A6 := Aside0.mk A60
  clear A60
  replace H := Option.bind_eq_some_iff.mp H
  obtain ⟨⟨t115, t116⟩, A70, H⟩ := H
  replace H : (if t102 = 0 then (if t101.toList = ([49, 52, 52] : List UInt8) then (if t104 = 10 then (if t107 = 0 then (if t105.toList = ([49, 52] : List UInt8) then (if t106.toList = ([50] : List UInt8) then (customhouselaw04_head.j0 k t111 t112 t113 t114 t116 (t110 == 15)) else (customhouselaw04_head.j0 k t111 t112 t113 t114 t116 false)) else (customhouselaw04_head.j0 k t111 t112 t113 t114 t116 false)) else (customhouselaw04_head.j0 k t111 t112 t113 t114 t116 false)) else (customhouselaw04_head.j0 k t111 t112 t113 t114 t116 false)) else (customhouselaw04_head.j0 k t111 t112 t113 t114 t116 false)) else (customhouselaw04_head.j0 k t111 t112 t113 t114 t116 false)) = some r := H
  have A7 := Aside0.mk A70
  clear A70
  have HC8 := Aside0.mk H
  clear H
  go_enter Tryd.func11, Tryd.ntmps11
  go_upto_region 8 with (first | ((with_reducible refine gate_callee (f := 18) rfl ?_); refine goesL_ (some 19) rfl rfl Tryd.func18 (by kernel_rfl) rfl #[.string (⟨#[49, 50]⟩ : ByteArray), .string (⟨#[49, 50]⟩ : ByteArray)] rfl (by (try simp only [List.map_toArray, List.map_cons, List.map_nil]); first | done | rfl | (simp only [List.length_drop, List.length_take]; rfl)) ?_; (with_reducible refine (natural_Mul.calls (⟨#[49, 50]⟩ : ByteArray) (⟨#[49, 50]⟩ : ByteArray) t101 t102 _ A1.out ?side1).mono ?_); (case side1 => exact GOK.below HG.out (by repeat (first | (with_reducible first | exact HB.out | apply below_alloc | apply pw_below_drewN | apply below_drew1) | exact HB.out))); rintro e w9 ⟨rfl, hb⟩; refine ⟨_, rfl, ?_⟩; have n0_ := Aside0.mk (below_step (by repeat (first | (with_reducible first | exact HB.out | apply below_alloc | apply pw_below_drewN | apply below_drew1) | exact HB.out)) hb); clear HB; have HB := n0_; clear n0_; (try clear hb); (try clear hb2); (try clear hk); (try clear hi)) | ((with_reducible refine gate_callee (f := 20) rfl ?_); refine goesL_ (some 23) rfl rfl Tryd.func20 (by kernel_rfl) rfl #[.string (⟨#[53]⟩ : ByteArray), .string (⟨#[55]⟩ : ByteArray)] rfl (by (try simp only [List.map_toArray, List.map_cons, List.map_nil]); first | done | rfl | (simp only [List.length_drop, List.length_take]; rfl)) ?_; (with_reducible refine (natural_Sub.calls (⟨#[53]⟩ : ByteArray) (⟨#[55]⟩ : ByteArray) t103 t104 _ A2.out ?side1).mono ?_); (case side1 => exact GOK.below HG.out (by repeat (first | (with_reducible first | exact HB.out | apply below_alloc | apply pw_below_drewN | apply below_drew1) | exact HB.out))); rintro e w10 ⟨rfl, hb⟩; refine ⟨_, rfl, ?_⟩; have n0_ := Aside0.mk (below_step (by repeat (first | (with_reducible first | exact HB.out | apply below_alloc | apply pw_below_drewN | apply below_drew1) | exact HB.out)) hb); clear HB; have HB := n0_; clear n0_; (try clear hb); (try clear hb2); (try clear hk); (try clear hi)) | ((with_reducible refine gate_callee (f := 17) rfl ?_); refine goesL_ (some 27) rfl rfl Tryd.func17 (by kernel_rfl) rfl #[.string (⟨#[49, 48, 48]⟩ : ByteArray), .string (⟨#[55]⟩ : ByteArray)] rfl (by (try simp only [List.map_toArray, List.map_cons, List.map_nil]); first | done | rfl | (simp only [List.length_drop, List.length_take]; rfl)) ?_; (with_reducible refine (natural_Div.calls (⟨#[49, 48, 48]⟩ : ByteArray) (⟨#[55]⟩ : ByteArray) t105 t106 t107 _ A3.out ?side1).mono ?_); (case side1 => exact GOK.below HG.out (by repeat (first | (with_reducible first | exact HB.out | apply below_alloc | apply pw_below_drewN | apply below_drew1) | exact HB.out))); rintro e w11 ⟨rfl, hb⟩; refine ⟨_, rfl, ?_⟩; have n0_ := Aside0.mk (below_step (by repeat (first | (with_reducible first | exact HB.out | apply below_alloc | apply pw_below_drewN | apply below_drew1) | exact HB.out)) hb); clear HB; have HB := n0_; clear n0_; (try clear hb); (try clear hb2); (try clear hk); (try clear hi)) | ((with_reducible refine gate_callee (f := 17) rfl ?_); refine goesL_ (some 32) rfl rfl Tryd.func17 (by kernel_rfl) rfl #[.string (⟨#[55]⟩ : ByteArray), .string (⟨#[48]⟩ : ByteArray)] rfl (by (try simp only [List.map_toArray, List.map_cons, List.map_nil]); first | done | rfl | (simp only [List.length_drop, List.length_take]; rfl)) ?_; (with_reducible refine (natural_Div.calls (⟨#[55]⟩ : ByteArray) (⟨#[48]⟩ : ByteArray) t108 t109 t110 _ A4.out ?side1).mono ?_); (case side1 => exact GOK.below HG.out (by repeat (first | (with_reducible first | exact HB.out | apply below_alloc | apply pw_below_drewN | apply below_drew1) | exact HB.out))); rintro e w12 ⟨rfl, hb⟩; refine ⟨_, rfl, ?_⟩; have n0_ := Aside0.mk (below_step (by repeat (first | (with_reducible first | exact HB.out | apply below_alloc | apply pw_below_drewN | apply below_drew1) | exact HB.out)) hb); clear HB; have HB := n0_; clear n0_; (try clear hb); (try clear hb2); (try clear hk); (try clear hi)) | ((with_reducible refine gate_callee (f := 16) rfl ?_); refine goesL_ (some 37) rfl rfl Tryd.func16 (by kernel_rfl) rfl #[.string (⟨#[49, 50]⟩ : ByteArray), .string (⟨#[49, 56]⟩ : ByteArray)] rfl (by (try simp only [List.map_toArray, List.map_cons, List.map_nil]); first | done | rfl | (simp only [List.length_drop, List.length_take]; rfl)) ?_; (with_reducible refine (natural_Gcd.calls (⟨#[49, 50]⟩ : ByteArray) (⟨#[49, 56]⟩ : ByteArray) t111 t112 _ A5.out ?side1).mono ?_); (case side1 => exact GOK.below HG.out (by repeat (first | (with_reducible first | exact HB.out | apply below_alloc | apply pw_below_drewN | apply below_drew1) | exact HB.out))); rintro e w13 ⟨rfl, hb⟩; refine ⟨_, rfl, ?_⟩; have n0_ := Aside0.mk (below_step (by repeat (first | (with_reducible first | exact HB.out | apply below_alloc | apply pw_below_drewN | apply below_drew1) | exact HB.out)) hb); clear HB; have HB := n0_; clear n0_; (try clear hb); (try clear hb2); (try clear hk); (try clear hi)) | ((with_reducible refine gate_callee (f := 16) rfl ?_); refine goesL_ (some 41) rfl rfl Tryd.func16 (by kernel_rfl) rfl #[.string (⟨#[48]⟩ : ByteArray), .string (⟨#[48]⟩ : ByteArray)] rfl (by (try simp only [List.map_toArray, List.map_cons, List.map_nil]); first | done | rfl | (simp only [List.length_drop, List.length_take]; rfl)) ?_; (with_reducible refine (natural_Gcd.calls (⟨#[48]⟩ : ByteArray) (⟨#[48]⟩ : ByteArray) t113 t114 _ A6.out ?side1).mono ?_); (case side1 => exact GOK.below HG.out (by repeat (first | (with_reducible first | exact HB.out | apply below_alloc | apply pw_below_drewN | apply below_drew1) | exact HB.out))); rintro e w14 ⟨rfl, hb⟩; refine ⟨_, rfl, ?_⟩; have n0_ := Aside0.mk (below_step (by repeat (first | (with_reducible first | exact HB.out | apply below_alloc | apply pw_below_drewN | apply below_drew1) | exact HB.out)) hb); clear HB; have HB := n0_; clear n0_; (try clear hb); (try clear hb2); (try clear hk); (try clear hi)) | ((with_reducible refine gate_callee (f := 13) rfl ?_); refine goesL_ (some 45) rfl rfl Tryd.func13 (by kernel_rfl) rfl #[.string (⟨#[57, 50, 50, 51, 51, 55, 50, 48, 51, 54, 56, 53, 52, 55, 55, 53, 56, 48, 56]⟩ : ByteArray)] rfl (by (try simp only [List.map_toArray, List.map_cons, List.map_nil]); first | done | rfl | (simp only [List.length_drop, List.length_take]; rfl)) ?_; (with_reducible refine (natural_Int.calls (⟨#[57, 50, 50, 51, 51, 55, 50, 48, 51, 54, 56, 53, 52, 55, 55, 53, 56, 48, 56]⟩ : ByteArray) t115 t116 _ A7.out ?side1).mono ?_); (case side1 => exact GOK.below HG.out (by repeat (first | (with_reducible first | exact HB.out | apply below_alloc | apply pw_below_drewN | apply below_drew1) | exact HB.out))); rintro e w15 ⟨rfl, hb⟩; refine ⟨_, rfl, ?_⟩; have n0_ := Aside0.mk (below_step (by repeat (first | (with_reducible first | exact HB.out | apply below_alloc | apply pw_below_drewN | apply below_drew1) | exact HB.out)) hb); clear HB; have HB := n0_; clear n0_; (try clear hb); (try clear hb2); (try clear hk); (try clear hi)))
  (try simp only [Act.put, List.setIfInBounds_toArray, List.set_cons_zero, List.set_cons_succ])
  go_cut [17] (fun v17 wc => ∃ (kq : Nat) (x17_7 : Bool), v17 = .bool x17_7 ∧ Aside0 (customhouselaw04_head.j0 kq t111 t112 t113 t114 t116 x17_7 = some r) ∧ Aside0 (kq ≤ k) ∧ Aside0 (Below w.heap.size w wc))
  case first =>
    have H := HC8.out
    clear HC8
    by_cases c16 : t102 = 0
    · rw [if_pos c16] at H
      have c16b0 : (t102 == 0) = true := beq_iff_eq.mpr c16
      have c16b1 : (t102 != 0) = false := bne_eq_false_iff_eq.mpr c16
      clear c16
      (first | rw [c16b0] | (simp only [i64_w, i32_w]; rw [c16b0]) | skip)
      by_cases c17 : t101.toList = ([49, 52, 52] : List UInt8)
      · rw [if_pos c17] at H
        have c17b0 : (t101.toList == ([49, 52, 52] : List UInt8)) = true := beq_iff_eq.mpr c17
        have c17b1 : (t101.toList != ([49, 52, 52] : List UInt8)) = false := bne_eq_false_iff_eq.mpr c17
        clear c17
        by_cases c18 : t104 = 10
        · rw [if_pos c18] at H
          have c18b0 : (t104 == 10) = true := beq_iff_eq.mpr c18
          have c18b1 : (t104 != 10) = false := bne_eq_false_iff_eq.mpr c18
          clear c18
          by_cases c19 : t107 = 0
          · rw [if_pos c19] at H
            have c19b0 : (t107 == 0) = true := beq_iff_eq.mpr c19
            have c19b1 : (t107 != 0) = false := bne_eq_false_iff_eq.mpr c19
            clear c19
            by_cases c20 : t105.toList = ([49, 52] : List UInt8)
            · rw [if_pos c20] at H
              have c20b0 : (t105.toList == ([49, 52] : List UInt8)) = true := beq_iff_eq.mpr c20
              have c20b1 : (t105.toList != ([49, 52] : List UInt8)) = false := bne_eq_false_iff_eq.mpr c20
              clear c20
              by_cases c21 : t106.toList = ([50] : List UInt8)
              · rw [if_pos c21] at H
                have c21b0 : (t106.toList == ([50] : List UInt8)) = true := beq_iff_eq.mpr c21
                have c21b1 : (t106.toList != ([50] : List UInt8)) = false := bne_eq_false_iff_eq.mpr c21
                clear c21
                have H' := Aside0.mk H
                clear H
                go_wp2
                go_meet
                case rel => exact ⟨_, ((t110 == 15)), (by first | rfl | (simp; done) | (simp [*]; done)), H', ⟨by first | omega | exact Nat.le_refl _⟩, ⟨by repeat (first | (with_reducible first | exact HB.out | apply below_alloc | apply pw_below_drewN | apply below_drew1) | exact HB.out)⟩⟩
              · rw [if_neg c21] at H
                have c21b0 : (t106.toList == ([50] : List UInt8)) = false := beq_eq_false_iff_ne.mpr c21
                have c21b1 : (t106.toList != ([50] : List UInt8)) = true := bne_iff_ne.mpr c21
                have H' := Aside0.mk H
                clear H
                go_wp2
                go_meet
                case rel => exact ⟨_, (false), (by first | rfl | (simp; done) | (simp [*]; done)), H', ⟨by first | omega | exact Nat.le_refl _⟩, ⟨by repeat (first | (with_reducible first | exact HB.out | apply below_alloc | apply pw_below_drewN | apply below_drew1) | exact HB.out)⟩⟩
            · rw [if_neg c20] at H
              have c20b0 : (t105.toList == ([49, 52] : List UInt8)) = false := beq_eq_false_iff_ne.mpr c20
              have c20b1 : (t105.toList != ([49, 52] : List UInt8)) = true := bne_iff_ne.mpr c20
              have H' := Aside0.mk H
              clear H
              go_wp2
              go_meet
              case rel => exact ⟨_, (false), (by first | rfl | (simp; done) | (simp [*]; done)), H', ⟨by first | omega | exact Nat.le_refl _⟩, ⟨by repeat (first | (with_reducible first | exact HB.out | apply below_alloc | apply pw_below_drewN | apply below_drew1) | exact HB.out)⟩⟩
          · rw [if_neg c19] at H
            have c19b0 : (t107 == 0) = false := beq_eq_false_iff_ne.mpr c19
            have c19b1 : (t107 != 0) = true := bne_iff_ne.mpr c19
            have H' := Aside0.mk H
            clear H
            go_wp2
            go_meet
            case rel => exact ⟨_, (false), (by first | rfl | (simp; done) | (simp [*]; done)), H', ⟨by first | omega | exact Nat.le_refl _⟩, ⟨by repeat (first | (with_reducible first | exact HB.out | apply below_alloc | apply pw_below_drewN | apply below_drew1) | exact HB.out)⟩⟩
        · rw [if_neg c18] at H
          have c18b0 : (t104 == 10) = false := beq_eq_false_iff_ne.mpr c18
          have c18b1 : (t104 != 10) = true := bne_iff_ne.mpr c18
          have H' := Aside0.mk H
          clear H
          go_wp2
          go_meet
          case rel => exact ⟨_, (false), (by first | rfl | (simp; done) | (simp [*]; done)), H', ⟨by first | omega | exact Nat.le_refl _⟩, ⟨by repeat (first | (with_reducible first | exact HB.out | apply below_alloc | apply pw_below_drewN | apply below_drew1) | exact HB.out)⟩⟩
      · rw [if_neg c17] at H
        have c17b0 : (t101.toList == ([49, 52, 52] : List UInt8)) = false := beq_eq_false_iff_ne.mpr c17
        have c17b1 : (t101.toList != ([49, 52, 52] : List UInt8)) = true := bne_iff_ne.mpr c17
        have H' := Aside0.mk H
        clear H
        go_wp2
        go_meet
        case rel => exact ⟨_, (false), (by first | rfl | (simp; done) | (simp [*]; done)), H', ⟨by first | omega | exact Nat.le_refl _⟩, ⟨by repeat (first | (with_reducible first | exact HB.out | apply below_alloc | apply pw_below_drewN | apply below_drew1) | exact HB.out)⟩⟩
    · rw [if_neg c16] at H
      have c16b0 : (t102 == 0) = false := beq_eq_false_iff_ne.mpr c16
      have c16b1 : (t102 != 0) = true := bne_iff_ne.mpr c16
      (first | rw [c16b0] | (simp only [i64_w, i32_w]; rw [c16b0]) | skip)
      have H' := Aside0.mk H
      clear H
      go_wp2
      go_meet
      case rel => exact ⟨_, (false), (by first | rfl | (simp; done) | (simp [*]; done)), H', ⟨by first | omega | exact Nat.le_refl _⟩, ⟨by repeat (first | (with_reducible first | exact HB.out | apply below_alloc | apply pw_below_drewN | apply below_drew1) | exact HB.out)⟩⟩
  case rest =>
    clear HC8
    try clear c1
    try clear c2
    try clear p2
    try clear c11
    try clear c13
    try clear c16
    try clear c16b0
    try clear c16b1
    try clear c17
    try clear c17b0
    try clear c17b1
    try clear c18
    try clear c18b0
    try clear c18b1
    try clear c19
    try clear c19b0
    try clear c19b1
    try clear c20
    try clear c20b0
    try clear c20b1
    try clear c21
    try clear c21b0
    try clear c21b1
    obtain ⟨kq, x17_7, rfl, HA, HJ7, HB⟩ := hcut
    cases kq with
    | zero => exact absurd HA.out (by simp [customhouselaw04_head.j0])
    | succ kj7 =>
      have H := HA.out
      clear HA
      simp only [customhouselaw04_head.j0] at H
      by_cases c22 : x17_7 = true
      · subst c22
        have H1 : (if t112 = 0 then (if t111.toList = ([54] : List UInt8) then (if t114 = 0 then (if t113.toList = ([48] : List UInt8) then (if t116 = 10 then ((natural_Of.f (-1)).bind fun t117 => (if t117.toList = ([] : List UInt8) then ((natural_Is.f (⟨#[48]⟩ : ByteArray)).bind fun t118 => (if t118 = true then ((natural_Is.f (⟨#[48, 48]⟩ : ByteArray)).bind fun t119 => (if t119 = true then (some false) else ((natural_Is.f (⟨#[]⟩ : ByteArray)).bind fun t120 => (if t120 = true then (some false) else ((natural_Is.f (⟨#[49, 50]⟩ : ByteArray)).bind fun t121 => (some t121)))))) else (some false))) else (some false))) else (some false)) else (some false)) else (some false)) else (some false)) else (some false)) = some r := by rw [if_pos rfl] at H; exact H
        clear H
        have H := H1
        clear H1
        by_cases c23 : t112 = 0
        · rw [if_pos c23] at H
          have c23b0 : (t112 == 0) = true := beq_iff_eq.mpr c23
          have c23b1 : (t112 != 0) = false := bne_eq_false_iff_eq.mpr c23
          clear c23
          by_cases c24 : t111.toList = ([54] : List UInt8)
          · rw [if_pos c24] at H
            have c24b0 : (t111.toList == ([54] : List UInt8)) = true := beq_iff_eq.mpr c24
            have c24b1 : (t111.toList != ([54] : List UInt8)) = false := bne_eq_false_iff_eq.mpr c24
            clear c24
            by_cases c25 : t114 = 0
            · rw [if_pos c25] at H
              have c25b0 : (t114 == 0) = true := beq_iff_eq.mpr c25
              have c25b1 : (t114 != 0) = false := bne_eq_false_iff_eq.mpr c25
              clear c25
              by_cases c26 : t113.toList = ([48] : List UInt8)
              · rw [if_pos c26] at H
                have c26b0 : (t113.toList == ([48] : List UInt8)) = true := beq_iff_eq.mpr c26
                have c26b1 : (t113.toList != ([48] : List UInt8)) = false := bne_eq_false_iff_eq.mpr c26
                clear c26
                by_cases c27 : t116 = 10
                · rw [if_pos c27] at H
                  have c27b0 : (t116 == 10) = true := beq_iff_eq.mpr c27
                  have c27b1 : (t116 != 10) = false := bne_eq_false_iff_eq.mpr c27
                  clear c27
                  replace H := Option.bind_eq_some_iff.mp H
                  obtain ⟨t117, A280, H⟩ := H
                  replace H : (if t117.toList = ([] : List UInt8) then ((natural_Is.f (⟨#[48]⟩ : ByteArray)).bind fun t118 => (if t118 = true then ((natural_Is.f (⟨#[48, 48]⟩ : ByteArray)).bind fun t119 => (if t119 = true then (some false) else ((natural_Is.f (⟨#[]⟩ : ByteArray)).bind fun t120 => (if t120 = true then (some false) else ((natural_Is.f (⟨#[49, 50]⟩ : ByteArray)).bind fun t121 => (some t121)))))) else (some false))) else (some false)) = some r := H
                  have A28 := Aside0.mk A280
                  clear A280
                  by_cases c29 : t117.toList = ([] : List UInt8)
                  · rw [if_pos c29] at H
                    have c29b0 : (t117.toList == ([] : List UInt8)) = true := beq_iff_eq.mpr c29
                    have c29b1 : (t117.toList != ([] : List UInt8)) = false := bne_eq_false_iff_eq.mpr c29
                    clear c29
                    replace H := Option.bind_eq_some_iff.mp H
                    obtain ⟨t118, A300, H⟩ := H
                    replace H : (if t118 = true then ((natural_Is.f (⟨#[48, 48]⟩ : ByteArray)).bind fun t119 => (if t119 = true then (some false) else ((natural_Is.f (⟨#[]⟩ : ByteArray)).bind fun t120 => (if t120 = true then (some false) else ((natural_Is.f (⟨#[49, 50]⟩ : ByteArray)).bind fun t121 => (some t121)))))) else (some false)) = some r := H
                    have A30 := Aside0.mk A300
                    clear A300
                    by_cases c31 : t118 = true
                    · subst c31
                      have H1 : ((natural_Is.f (⟨#[48, 48]⟩ : ByteArray)).bind fun t119 => (if t119 = true then (some false) else ((natural_Is.f (⟨#[]⟩ : ByteArray)).bind fun t120 => (if t120 = true then (some false) else ((natural_Is.f (⟨#[49, 50]⟩ : ByteArray)).bind fun t121 => (some t121)))))) = some r := by rw [if_pos rfl] at H; exact H
                      clear H
                      have H := H1
                      clear H1
                      replace H := Option.bind_eq_some_iff.mp H
                      obtain ⟨t119, A320, H⟩ := H
                      replace H : (if t119 = true then (some false) else ((natural_Is.f (⟨#[]⟩ : ByteArray)).bind fun t120 => (if t120 = true then (some false) else ((natural_Is.f (⟨#[49, 50]⟩ : ByteArray)).bind fun t121 => (some t121))))) = some r := H
                      have A32 := Aside0.mk A320
                      clear A320
                      by_cases c33 : t119 = true
                      · subst c33
                        have H1 : (some false) = some r := by rw [if_pos rfl] at H; exact H
                        clear H
                        have H := H1
                        clear H1
                        obtain rfl := Option.some.inj H
                        go_wp2_with (first | (go_at_call 12; (with_reducible refine (natural_Of.calls (-1) t117 _ A28.out ?side1).mono ?_); (case side1 => exact GOK.below HG.out (by repeat (first | (with_reducible first | exact HB.out | apply below_alloc | apply pw_below_drewN | apply below_drew1) | exact HB.out))); rintro e w34 ⟨rfl, hb⟩; have n0_ := Aside0.mk (below_step (by repeat (first | (with_reducible first | exact HB.out | apply below_alloc | apply pw_below_drewN | apply below_drew1) | exact HB.out)) hb); clear HB; have HB := n0_; clear n0_; (try clear hb); (try clear hb2); (try clear hk); (try clear hi)) | (go_at_call 14; (with_reducible refine (natural_Is.calls (⟨#[48]⟩ : ByteArray) true _ A30.out).mono ?_); rintro e w35 ⟨rfl, hb⟩; have n0_ := Aside0.mk (below_step (by repeat (first | (with_reducible first | exact HB.out | apply below_alloc | apply pw_below_drewN | apply below_drew1) | exact HB.out)) hb); clear HB; have HB := n0_; clear n0_; (try clear hb); (try clear hb2); (try clear hk); (try clear hi)) | (go_at_call 14; (with_reducible refine (natural_Is.calls (⟨#[48, 48]⟩ : ByteArray) true _ A32.out).mono ?_); rintro e w36 ⟨rfl, hb⟩; have n0_ := Aside0.mk (below_step (by repeat (first | (with_reducible first | exact HB.out | apply below_alloc | apply pw_below_drewN | apply below_drew1) | exact HB.out)) hb); clear HB; have HB := n0_; clear n0_; (try clear hb); (try clear hb2); (try clear hk); (try clear hi)))
                        go_ret
                        exact ⟨by first | rfl | (simp [errW_none, errW_some] <;> rfl) | (simp [*, errW_none, errW_some] <;> rfl), by repeat (first | (with_reducible first | exact HB.out | apply below_alloc | apply pw_below_drewN | apply below_drew1) | exact HB.out)⟩
                      · replace c33 := Bool.eq_false_iff.mpr c33
                        subst c33
                        have H1 : ((natural_Is.f (⟨#[]⟩ : ByteArray)).bind fun t120 => (if t120 = true then (some false) else ((natural_Is.f (⟨#[49, 50]⟩ : ByteArray)).bind fun t121 => (some t121)))) = some r := by rw [if_neg (show ¬ (false = true) by decide)] at H; exact H
                        clear H
                        have H := H1
                        clear H1
                        replace H := Option.bind_eq_some_iff.mp H
                        obtain ⟨t120, A370, H⟩ := H
                        replace H : (if t120 = true then (some false) else ((natural_Is.f (⟨#[49, 50]⟩ : ByteArray)).bind fun t121 => (some t121))) = some r := H
                        have A37 := Aside0.mk A370
                        clear A370
                        by_cases c38 : t120 = true
                        · subst c38
                          have H1 : (some false) = some r := by rw [if_pos rfl] at H; exact H
                          clear H
                          have H := H1
                          clear H1
                          obtain rfl := Option.some.inj H
                          go_wp2_with (first | (go_at_call 12; (with_reducible refine (natural_Of.calls (-1) t117 _ A28.out ?side1).mono ?_); (case side1 => exact GOK.below HG.out (by repeat (first | (with_reducible first | exact HB.out | apply below_alloc | apply pw_below_drewN | apply below_drew1) | exact HB.out))); rintro e w39 ⟨rfl, hb⟩; have n0_ := Aside0.mk (below_step (by repeat (first | (with_reducible first | exact HB.out | apply below_alloc | apply pw_below_drewN | apply below_drew1) | exact HB.out)) hb); clear HB; have HB := n0_; clear n0_; (try clear hb); (try clear hb2); (try clear hk); (try clear hi)) | (go_at_call 14; (with_reducible refine (natural_Is.calls (⟨#[48]⟩ : ByteArray) true _ A30.out).mono ?_); rintro e w40 ⟨rfl, hb⟩; have n0_ := Aside0.mk (below_step (by repeat (first | (with_reducible first | exact HB.out | apply below_alloc | apply pw_below_drewN | apply below_drew1) | exact HB.out)) hb); clear HB; have HB := n0_; clear n0_; (try clear hb); (try clear hb2); (try clear hk); (try clear hi)) | (go_at_call 14; (with_reducible refine (natural_Is.calls (⟨#[48, 48]⟩ : ByteArray) false _ A32.out).mono ?_); rintro e w41 ⟨rfl, hb⟩; have n0_ := Aside0.mk (below_step (by repeat (first | (with_reducible first | exact HB.out | apply below_alloc | apply pw_below_drewN | apply below_drew1) | exact HB.out)) hb); clear HB; have HB := n0_; clear n0_; (try clear hb); (try clear hb2); (try clear hk); (try clear hi)) | (go_at_call 14; (with_reducible refine (natural_Is.calls (⟨#[]⟩ : ByteArray) true _ A37.out).mono ?_); rintro e w42 ⟨rfl, hb⟩; have n0_ := Aside0.mk (below_step (by repeat (first | (with_reducible first | exact HB.out | apply below_alloc | apply pw_below_drewN | apply below_drew1) | exact HB.out)) hb); clear HB; have HB := n0_; clear n0_; (try clear hb); (try clear hb2); (try clear hk); (try clear hi)))
                          go_ret
                          exact ⟨by first | rfl | (simp [errW_none, errW_some] <;> rfl) | (simp [*, errW_none, errW_some] <;> rfl), by repeat (first | (with_reducible first | exact HB.out | apply below_alloc | apply pw_below_drewN | apply below_drew1) | exact HB.out)⟩
                        · replace c38 := Bool.eq_false_iff.mpr c38
                          subst c38
                          have H1 : ((natural_Is.f (⟨#[49, 50]⟩ : ByteArray)).bind fun t121 => (some t121)) = some r := by rw [if_neg (show ¬ (false = true) by decide)] at H; exact H
                          clear H
                          have H := H1
                          clear H1
                          replace H := Option.bind_eq_some_iff.mp H
                          obtain ⟨t121, A430, H⟩ := H
                          replace H : (some t121) = some r := H
                          have A43 := Aside0.mk A430
                          clear A430
                          obtain rfl := Option.some.inj H
                          go_wp2_with (first | (go_at_call 12; (with_reducible refine (natural_Of.calls (-1) t117 _ A28.out ?side1).mono ?_); (case side1 => exact GOK.below HG.out (by repeat (first | (with_reducible first | exact HB.out | apply below_alloc | apply pw_below_drewN | apply below_drew1) | exact HB.out))); rintro e w44 ⟨rfl, hb⟩; have n0_ := Aside0.mk (below_step (by repeat (first | (with_reducible first | exact HB.out | apply below_alloc | apply pw_below_drewN | apply below_drew1) | exact HB.out)) hb); clear HB; have HB := n0_; clear n0_; (try clear hb); (try clear hb2); (try clear hk); (try clear hi)) | (go_at_call 14; (with_reducible refine (natural_Is.calls (⟨#[48]⟩ : ByteArray) true _ A30.out).mono ?_); rintro e w45 ⟨rfl, hb⟩; have n0_ := Aside0.mk (below_step (by repeat (first | (with_reducible first | exact HB.out | apply below_alloc | apply pw_below_drewN | apply below_drew1) | exact HB.out)) hb); clear HB; have HB := n0_; clear n0_; (try clear hb); (try clear hb2); (try clear hk); (try clear hi)) | (go_at_call 14; (with_reducible refine (natural_Is.calls (⟨#[48, 48]⟩ : ByteArray) false _ A32.out).mono ?_); rintro e w46 ⟨rfl, hb⟩; have n0_ := Aside0.mk (below_step (by repeat (first | (with_reducible first | exact HB.out | apply below_alloc | apply pw_below_drewN | apply below_drew1) | exact HB.out)) hb); clear HB; have HB := n0_; clear n0_; (try clear hb); (try clear hb2); (try clear hk); (try clear hi)) | (go_at_call 14; (with_reducible refine (natural_Is.calls (⟨#[]⟩ : ByteArray) false _ A37.out).mono ?_); rintro e w47 ⟨rfl, hb⟩; have n0_ := Aside0.mk (below_step (by repeat (first | (with_reducible first | exact HB.out | apply below_alloc | apply pw_below_drewN | apply below_drew1) | exact HB.out)) hb); clear HB; have HB := n0_; clear n0_; (try clear hb); (try clear hb2); (try clear hk); (try clear hi)) | (go_at_call 14; (with_reducible refine (natural_Is.calls (⟨#[49, 50]⟩ : ByteArray) t121 _ A43.out).mono ?_); rintro e w48 ⟨rfl, hb⟩; have n0_ := Aside0.mk (below_step (by repeat (first | (with_reducible first | exact HB.out | apply below_alloc | apply pw_below_drewN | apply below_drew1) | exact HB.out)) hb); clear HB; have HB := n0_; clear n0_; (try clear hb); (try clear hb2); (try clear hk); (try clear hi)))
                          go_ret
                          exact ⟨by first | rfl | (simp [errW_none, errW_some] <;> rfl) | (simp [*, errW_none, errW_some] <;> rfl), by repeat (first | (with_reducible first | exact HB.out | apply below_alloc | apply pw_below_drewN | apply below_drew1) | exact HB.out)⟩
                    · replace c31 := Bool.eq_false_iff.mpr c31
                      subst c31
                      have H1 : (some false) = some r := by rw [if_neg (show ¬ (false = true) by decide)] at H; exact H
                      clear H
                      have H := H1
                      clear H1
                      obtain rfl := Option.some.inj H
                      go_wp2_with (first | (go_at_call 12; (with_reducible refine (natural_Of.calls (-1) t117 _ A28.out ?side1).mono ?_); (case side1 => exact GOK.below HG.out (by repeat (first | (with_reducible first | exact HB.out | apply below_alloc | apply pw_below_drewN | apply below_drew1) | exact HB.out))); rintro e w49 ⟨rfl, hb⟩; have n0_ := Aside0.mk (below_step (by repeat (first | (with_reducible first | exact HB.out | apply below_alloc | apply pw_below_drewN | apply below_drew1) | exact HB.out)) hb); clear HB; have HB := n0_; clear n0_; (try clear hb); (try clear hb2); (try clear hk); (try clear hi)) | (go_at_call 14; (with_reducible refine (natural_Is.calls (⟨#[48]⟩ : ByteArray) false _ A30.out).mono ?_); rintro e w50 ⟨rfl, hb⟩; have n0_ := Aside0.mk (below_step (by repeat (first | (with_reducible first | exact HB.out | apply below_alloc | apply pw_below_drewN | apply below_drew1) | exact HB.out)) hb); clear HB; have HB := n0_; clear n0_; (try clear hb); (try clear hb2); (try clear hk); (try clear hi)))
                      go_ret
                      exact ⟨by first | rfl | (simp [errW_none, errW_some] <;> rfl) | (simp [*, errW_none, errW_some] <;> rfl), by repeat (first | (with_reducible first | exact HB.out | apply below_alloc | apply pw_below_drewN | apply below_drew1) | exact HB.out)⟩
                  · rw [if_neg c29] at H
                    have c29b0 : (t117.toList == ([] : List UInt8)) = false := beq_eq_false_iff_ne.mpr c29
                    have c29b1 : (t117.toList != ([] : List UInt8)) = true := bne_iff_ne.mpr c29
                    obtain rfl := Option.some.inj H
                    go_wp2_with (first | (go_at_call 12; (with_reducible refine (natural_Of.calls (-1) t117 _ A28.out ?side1).mono ?_); (case side1 => exact GOK.below HG.out (by repeat (first | (with_reducible first | exact HB.out | apply below_alloc | apply pw_below_drewN | apply below_drew1) | exact HB.out))); rintro e w51 ⟨rfl, hb⟩; have n0_ := Aside0.mk (below_step (by repeat (first | (with_reducible first | exact HB.out | apply below_alloc | apply pw_below_drewN | apply below_drew1) | exact HB.out)) hb); clear HB; have HB := n0_; clear n0_; (try clear hb); (try clear hb2); (try clear hk); (try clear hi)))
                    go_ret
                    exact ⟨by first | rfl | (simp [errW_none, errW_some] <;> rfl) | (simp [*, errW_none, errW_some] <;> rfl), by repeat (first | (with_reducible first | exact HB.out | apply below_alloc | apply pw_below_drewN | apply below_drew1) | exact HB.out)⟩
                · rw [if_neg c27] at H
                  have c27b0 : (t116 == 10) = false := beq_eq_false_iff_ne.mpr c27
                  have c27b1 : (t116 != 10) = true := bne_iff_ne.mpr c27
                  obtain rfl := Option.some.inj H
                  go_wp2
                  go_ret
                  exact ⟨by first | rfl | (simp [errW_none, errW_some] <;> rfl) | (simp [*, errW_none, errW_some] <;> rfl), by repeat (first | (with_reducible first | exact HB.out | apply below_alloc | apply pw_below_drewN | apply below_drew1) | exact HB.out)⟩
              · rw [if_neg c26] at H
                have c26b0 : (t113.toList == ([48] : List UInt8)) = false := beq_eq_false_iff_ne.mpr c26
                have c26b1 : (t113.toList != ([48] : List UInt8)) = true := bne_iff_ne.mpr c26
                obtain rfl := Option.some.inj H
                go_wp2
                go_ret
                exact ⟨by first | rfl | (simp [errW_none, errW_some] <;> rfl) | (simp [*, errW_none, errW_some] <;> rfl), by repeat (first | (with_reducible first | exact HB.out | apply below_alloc | apply pw_below_drewN | apply below_drew1) | exact HB.out)⟩
            · rw [if_neg c25] at H
              have c25b0 : (t114 == 0) = false := beq_eq_false_iff_ne.mpr c25
              have c25b1 : (t114 != 0) = true := bne_iff_ne.mpr c25
              obtain rfl := Option.some.inj H
              go_wp2
              go_ret
              exact ⟨by first | rfl | (simp [errW_none, errW_some] <;> rfl) | (simp [*, errW_none, errW_some] <;> rfl), by repeat (first | (with_reducible first | exact HB.out | apply below_alloc | apply pw_below_drewN | apply below_drew1) | exact HB.out)⟩
          · rw [if_neg c24] at H
            have c24b0 : (t111.toList == ([54] : List UInt8)) = false := beq_eq_false_iff_ne.mpr c24
            have c24b1 : (t111.toList != ([54] : List UInt8)) = true := bne_iff_ne.mpr c24
            obtain rfl := Option.some.inj H
            go_wp2
            go_ret
            exact ⟨by first | rfl | (simp [errW_none, errW_some] <;> rfl) | (simp [*, errW_none, errW_some] <;> rfl), by repeat (first | (with_reducible first | exact HB.out | apply below_alloc | apply pw_below_drewN | apply below_drew1) | exact HB.out)⟩
        · rw [if_neg c23] at H
          have c23b0 : (t112 == 0) = false := beq_eq_false_iff_ne.mpr c23
          have c23b1 : (t112 != 0) = true := bne_iff_ne.mpr c23
          obtain rfl := Option.some.inj H
          go_wp2
          go_ret
          exact ⟨by first | rfl | (simp [errW_none, errW_some] <;> rfl) | (simp [*, errW_none, errW_some] <;> rfl), by repeat (first | (with_reducible first | exact HB.out | apply below_alloc | apply pw_below_drewN | apply below_drew1) | exact HB.out)⟩
      · replace c22 := Bool.eq_false_iff.mpr c22
        subst c22
        have H1 : (some false) = some r := by rw [if_neg (show ¬ (false = true) by decide)] at H; exact H
        clear H
        have H := H1
        clear H1
        obtain rfl := Option.some.inj H
        go_wp2
        go_ret
        exact ⟨by first | rfl | (simp [errW_none, errW_some] <;> rfl) | (simp [*, errW_none, errW_some] <;> rfl), by repeat (first | (with_reducible first | exact HB.out | apply below_alloc | apply pw_below_drewN | apply below_drew1) | exact HB.out)⟩

end Go.Proofs.YtdojfnjgipeogaaDoor.La
