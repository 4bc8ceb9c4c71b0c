-- PRINTED by print.py (a twelfth state) out of the translation. Not trusted: Lean checks it.
import Derived.Test.YtdojfnjgipeogaaGreatDoorLbx0
namespace Go.Proofs.YtdojfnjgipeogaaGreatDoor.Lb
open Go.RowKit Go.Proofs.YtdojfnjgipeogaaGreatDoorW.PrintWords Go.Proofs.YtdojfnjgipeogaaGreatDoorW.PrintLast Go.Proofs.YtdojfnjgipeogaaGreatDoorW.PrintMore
attribute [local go_sem] max2_int min2_int max_two min_two max_three min_three max_four min_four   -- for this text's walks alone
set_option linter.unusedVariables false
set_option linter.unusedSimpArgs false

/-! ### customhouselaw04_head: function 5 -/
def customhouselaw04_head.j0 : Nat → ByteArray → Int → ByteArray → Int → Int → Bool → Option (Bool)
  | 0, _, _, _, _, _, _ => none
  | k + 1, x11, x12, x13, x14, x16, x17 => if x17 = true then (if x12 = 0 then (if x11.toList = ([54] : List UInt8) then (if x14 = 0 then (if x13.toList = ([48] : List UInt8) then (if x16 = 10 then ((natural_Of.f (-1)).bind fun t117 => (if t117.toList = ([] : List UInt8) then ((natural_Is.f (⟨#[48]⟩ : ByteArray)).bind fun t118 => (if t118 = true then ((natural_Is.f (⟨#[48, 48]⟩ : ByteArray)).bind fun t119 => (if t119 = true then (some false) else ((natural_Is.f (⟨#[]⟩ : ByteArray)).bind fun t120 => (if t120 = true then (some false) else ((natural_Is.f (⟨#[49, 50]⟩ : ByteArray)).bind fun t121 => (some t121)))))) else (some false))) else (some false))) else (some false)) else (some false)) else (some false)) else (some false)) else (some false)) else (some false)
def customhouselaw04_head.f (k : Nat)  : Option (Bool) := (natural_Mul.f (⟨#[49, 50]⟩ : ByteArray) (⟨#[49, 50]⟩ : ByteArray)).bind fun bt101 => ((natural_Sub.f (⟨#[53]⟩ : ByteArray) (⟨#[55]⟩ : ByteArray)).bind fun bt103 => ((natural_Div.f (⟨#[49, 48, 48]⟩ : ByteArray) (⟨#[55]⟩ : ByteArray)).bind fun bt105 => ((natural_Div.f (⟨#[55]⟩ : ByteArray) (⟨#[48]⟩ : ByteArray)).bind fun bt108 => ((natural_Gcd.f (⟨#[49, 50]⟩ : ByteArray) (⟨#[49, 56]⟩ : ByteArray)).bind fun bt111 => ((natural_Gcd.f (⟨#[48]⟩ : ByteArray) (⟨#[48]⟩ : ByteArray)).bind fun bt113 => ((natural_Int.f (⟨#[57, 50, 50, 51, 51, 55, 50, 48, 51, 54, 56, 53, 52, 55, 55, 53, 56, 48, 56]⟩ : ByteArray)).bind fun bt115 => (if bt101.2 = 0 then (if bt101.1.toList = ([49, 52, 52] : List UInt8) then (if bt103.2 = 10 then (if bt105.2.2 = 0 then (if bt105.1.toList = ([49, 52] : List UInt8) then (if bt105.2.1.toList = ([50] : List UInt8) then (customhouselaw04_head.j0 k bt111.1 bt111.2 bt113.1 bt113.2 bt115.2 (bt108.2.2 == 15)) else (customhouselaw04_head.j0 k bt111.1 bt111.2 bt113.1 bt113.2 bt115.2 false)) else (customhouselaw04_head.j0 k bt111.1 bt111.2 bt113.1 bt113.2 bt115.2 false)) else (customhouselaw04_head.j0 k bt111.1 bt111.2 bt113.1 bt113.2 bt115.2 false)) else (customhouselaw04_head.j0 k bt111.1 bt111.2 bt113.1 bt113.2 bt115.2 false)) else (customhouselaw04_head.j0 k bt111.1 bt111.2 bt113.1 bt113.2 bt115.2 false)) else (customhouselaw04_head.j0 k bt111.1 bt111.2 bt113.1 bt113.2 bt115.2 false))))))))
theorem customhouselaw04_head.mono_l : ∀ k, (∀ y0 y1 y2 y3 y4 y5, LeO (customhouselaw04_head.j0 k y0 y1 y2 y3 y4 y5) (customhouselaw04_head.j0 (k + 1) y0 y1 y2 y3 y4 y5))
  | 0 => fun _ _ _ _ _ _ r h => by simp [customhouselaw04_head.j0] at h
  | k + 1 => by
    have ih0 := customhouselaw04_head.mono_l k
    · intro y0 y1 y2 y3 y4 y5
      unfold customhouselaw04_head.j0
      repeat' first
      | (with_reducible exact ih0 _ _ _ _ _ _)
      | (with_reducible exact LeO.refl _)
      | (with_reducible exact LeO.none _)
      | (with_reducible refine LeO.ite ?_ ?_)
      | (with_reducible refine LeO.bind ?_ (fun _ => ?_))
      | exact ih0 _ _ _ _ _ _
      | exact LeO.none _
      | refine LeO.ite ?_ ?_
      | refine LeO.bind ?_ (fun _ => ?_)
theorem customhouselaw04_head.mono : ∀ k, LeO (customhouselaw04_head.f k ) (customhouselaw04_head.f (k + 1) ) := by
  intro  k
  have ih0 := customhouselaw04_head.mono_l k
  unfold customhouselaw04_head.f
  repeat' first
      | (with_reducible exact ih0 _ _ _ _ _ _)
      | (with_reducible exact LeO.refl _)
      | (with_reducible exact LeO.none _)
      | (with_reducible refine LeO.ite ?_ ?_)
      | (with_reducible refine LeO.bind ?_ (fun _ => ?_))
      | exact ih0 _ _ _ _ _ _
      | exact LeO.none _
      | refine LeO.ite ?_ ?_
      | refine LeO.bind ?_ (fun _ => ?_)
set_option maxHeartbeats 8000000 in
set_option maxRecDepth 100000 in
theorem customhouselaw04_head.calls (k : Nat)  (r : Bool) (w : World) (h : customhouselaw04_head.f k  = some r) (hG : GOK w) :
    Calls Tryz.prog 5 #[] w fun e w' => e = .returned (.bool r) ∧ Below w.heap.size w w' := by
  have HB := Aside0.mk (Below.refl w.heap.size w)
  have H : ((natural_Mul.f (⟨#[49, 50]⟩ : ByteArray) (⟨#[49, 50]⟩ : ByteArray)).bind fun bt101 => ((natural_Sub.f (⟨#[53]⟩ : ByteArray) (⟨#[55]⟩ : ByteArray)).bind fun bt103 => ((natural_Div.f (⟨#[49, 48, 48]⟩ : ByteArray) (⟨#[55]⟩ : ByteArray)).bind fun bt105 => ((natural_Div.f (⟨#[55]⟩ : ByteArray) (⟨#[48]⟩ : ByteArray)).bind fun bt108 => ((natural_Gcd.f (⟨#[49, 50]⟩ : ByteArray) (⟨#[49, 56]⟩ : ByteArray)).bind fun bt111 => ((natural_Gcd.f (⟨#[48]⟩ : ByteArray) (⟨#[48]⟩ : ByteArray)).bind fun bt113 => ((natural_Int.f (⟨#[57, 50, 50, 51, 51, 55, 50, 48, 51, 54, 56, 53, 52, 55, 55, 53, 56, 48, 56]⟩ : ByteArray)).bind fun bt115 => (if bt101.2 = 0 then (if bt101.1.toList = ([49, 52, 52] : List UInt8) then (if bt103.2 = 10 then (if bt105.2.2 = 0 then (if bt105.1.toList = ([49, 52] : List UInt8) then (if bt105.2.1.toList = ([50] : List UInt8) then (customhouselaw04_head.j0 k bt111.1 bt111.2 bt113.1 bt113.2 bt115.2 (bt108.2.2 == 15)) else (customhouselaw04_head.j0 k bt111.1 bt111.2 bt113.1 bt113.2 bt115.2 false)) else (customhouselaw04_head.j0 k bt111.1 bt111.2 bt113.1 bt113.2 bt115.2 false)) else (customhouselaw04_head.j0 k bt111.1 bt111.2 bt113.1 bt113.2 bt115.2 false)) else (customhouselaw04_head.j0 k bt111.1 bt111.2 bt113.1 bt113.2 bt115.2 false)) else (customhouselaw04_head.j0 k bt111.1 bt111.2 bt113.1 bt113.2 bt115.2 false)) else (customhouselaw04_head.j0 k bt111.1 bt111.2 bt113.1 bt113.2 bt115.2 false))))))))) = some r := h
  clear h
  have HG := Aside0.mk hG
  clear hG
  replace H := Option.bind_eq_some_iff.mp H
  obtain ⟨⟨t101, t102⟩, A10, H⟩ := H
  replace H : ((natural_Sub.f (⟨#[53]⟩ : ByteArray) (⟨#[55]⟩ : ByteArray)).bind fun bt103 => ((natural_Div.f (⟨#[49, 48, 48]⟩ : ByteArray) (⟨#[55]⟩ : ByteArray)).bind fun bt105 => ((natural_Div.f (⟨#[55]⟩ : ByteArray) (⟨#[48]⟩ : ByteArray)).bind fun bt108 => ((natural_Gcd.f (⟨#[49, 50]⟩ : ByteArray) (⟨#[49, 56]⟩ : ByteArray)).bind fun bt111 => ((natural_Gcd.f (⟨#[48]⟩ : ByteArray) (⟨#[48]⟩ : ByteArray)).bind fun bt113 => ((natural_Int.f (⟨#[57, 50, 50, 51, 51, 55, 50, 48, 51, 54, 56, 53, 52, 55, 55, 53, 56, 48, 56]⟩ : ByteArray)).bind fun bt115 => (if t102 = 0 then (if t101.toList = ([49, 52, 52] : List UInt8) then (if bt103.2 = 10 then (if bt105.2.2 = 0 then (if bt105.1.toList = ([49, 52] : List UInt8) then (if bt105.2.1.toList = ([50] : List UInt8) then (customhouselaw04_head.j0 k bt111.1 bt111.2 bt113.1 bt113.2 bt115.2 (bt108.2.2 == 15)) else (customhouselaw04_head.j0 k bt111.1 bt111.2 bt113.1 bt113.2 bt115.2 false)) else (customhouselaw04_head.j0 k bt111.1 bt111.2 bt113.1 bt113.2 bt115.2 false)) else (customhouselaw04_head.j0 k bt111.1 bt111.2 bt113.1 bt113.2 bt115.2 false)) else (customhouselaw04_head.j0 k bt111.1 bt111.2 bt113.1 bt113.2 bt115.2 false)) else (customhouselaw04_head.j0 k bt111.1 bt111.2 bt113.1 bt113.2 bt115.2 false)) else (customhouselaw04_head.j0 k bt111.1 bt111.2 bt113.1 bt113.2 bt115.2 false)))))))) = some r := H
  have A1 := Aside0.mk A10
  clear A10
  replace H := Option.bind_eq_some_iff.mp H
  obtain ⟨⟨t103, t104⟩, A20, H⟩ := H
  replace H : ((natural_Div.f (⟨#[49, 48, 48]⟩ : ByteArray) (⟨#[55]⟩ : ByteArray)).bind fun bt105 => ((natural_Div.f (⟨#[55]⟩ : ByteArray) (⟨#[48]⟩ : ByteArray)).bind fun bt108 => ((natural_Gcd.f (⟨#[49, 50]⟩ : ByteArray) (⟨#[49, 56]⟩ : ByteArray)).bind fun bt111 => ((natural_Gcd.f (⟨#[48]⟩ : ByteArray) (⟨#[48]⟩ : ByteArray)).bind fun bt113 => ((natural_Int.f (⟨#[57, 50, 50, 51, 51, 55, 50, 48, 51, 54, 56, 53, 52, 55, 55, 53, 56, 48, 56]⟩ : ByteArray)).bind fun bt115 => (if t102 = 0 then (if t101.toList = ([49, 52, 52] : List UInt8) then (if t104 = 10 then (if bt105.2.2 = 0 then (if bt105.1.toList = ([49, 52] : List UInt8) then (if bt105.2.1.toList = ([50] : List UInt8) then (customhouselaw04_head.j0 k bt111.1 bt111.2 bt113.1 bt113.2 bt115.2 (bt108.2.2 == 15)) else (customhouselaw04_head.j0 k bt111.1 bt111.2 bt113.1 bt113.2 bt115.2 false)) else (customhouselaw04_head.j0 k bt111.1 bt111.2 bt113.1 bt113.2 bt115.2 false)) else (customhouselaw04_head.j0 k bt111.1 bt111.2 bt113.1 bt113.2 bt115.2 false)) else (customhouselaw04_head.j0 k bt111.1 bt111.2 bt113.1 bt113.2 bt115.2 false)) else (customhouselaw04_head.j0 k bt111.1 bt111.2 bt113.1 bt113.2 bt115.2 false)) else (customhouselaw04_head.j0 k bt111.1 bt111.2 bt113.1 bt113.2 bt115.2 false))))))) = some r := H
  have A2 := Aside0.mk A20
  clear A20
  replace H := Option.bind_eq_some_iff.mp H
  obtain ⟨⟨t105, t106, t107⟩, A30, H⟩ := H
  replace H : ((natural_Div.f (⟨#[55]⟩ : ByteArray) (⟨#[48]⟩ : ByteArray)).bind fun bt108 => ((natural_Gcd.f (⟨#[49, 50]⟩ : ByteArray) (⟨#[49, 56]⟩ : ByteArray)).bind fun bt111 => ((natural_Gcd.f (⟨#[48]⟩ : ByteArray) (⟨#[48]⟩ : ByteArray)).bind fun bt113 => ((natural_Int.f (⟨#[57, 50, 50, 51, 51, 55, 50, 48, 51, 54, 56, 53, 52, 55, 55, 53, 56, 48, 56]⟩ : ByteArray)).bind fun bt115 => (if t102 = 0 then (if t101.toList = ([49, 52, 52] : List UInt8) then (if t104 = 10 then (if t107 = 0 then (if t105.toList = ([49, 52] : List UInt8) then (if t106.toList = ([50] : List UInt8) then (customhouselaw04_head.j0 k bt111.1 bt111.2 bt113.1 bt113.2 bt115.2 (bt108.2.2 == 15)) else (customhouselaw04_head.j0 k bt111.1 bt111.2 bt113.1 bt113.2 bt115.2 false)) else (customhouselaw04_head.j0 k bt111.1 bt111.2 bt113.1 bt113.2 bt115.2 false)) else (customhouselaw04_head.j0 k bt111.1 bt111.2 bt113.1 bt113.2 bt115.2 false)) else (customhouselaw04_head.j0 k bt111.1 bt111.2 bt113.1 bt113.2 bt115.2 false)) else (customhouselaw04_head.j0 k bt111.1 bt111.2 bt113.1 bt113.2 bt115.2 false)) else (customhouselaw04_head.j0 k bt111.1 bt111.2 bt113.1 bt113.2 bt115.2 false)))))) = some r := H
  have A3 := Aside0.mk A30
  clear A30
  replace H := Option.bind_eq_some_iff.mp H
  obtain ⟨⟨t108, t109, t110⟩, A40, H⟩ := H
  replace H : ((natural_Gcd.f (⟨#[49, 50]⟩ : ByteArray) (⟨#[49, 56]⟩ : ByteArray)).bind fun bt111 => ((natural_Gcd.f (⟨#[48]⟩ : ByteArray) (⟨#[48]⟩ : ByteArray)).bind fun bt113 => ((natural_Int.f (⟨#[57, 50, 50, 51, 51, 55, 50, 48, 51, 54, 56, 53, 52, 55, 55, 53, 56, 48, 56]⟩ : ByteArray)).bind fun bt115 => (if t102 = 0 then (if t101.toList = ([49, 52, 52] : List UInt8) then (if t104 = 10 then (if t107 = 0 then (if t105.toList = ([49, 52] : List UInt8) then (if t106.toList = ([50] : List UInt8) then (customhouselaw04_head.j0 k bt111.1 bt111.2 bt113.1 bt113.2 bt115.2 (t110 == 15)) else (customhouselaw04_head.j0 k bt111.1 bt111.2 bt113.1 bt113.2 bt115.2 false)) else (customhouselaw04_head.j0 k bt111.1 bt111.2 bt113.1 bt113.2 bt115.2 false)) else (customhouselaw04_head.j0 k bt111.1 bt111.2 bt113.1 bt113.2 bt115.2 false)) else (customhouselaw04_head.j0 k bt111.1 bt111.2 bt113.1 bt113.2 bt115.2 false)) else (customhouselaw04_head.j0 k bt111.1 bt111.2 bt113.1 bt113.2 bt115.2 false)) else (customhouselaw04_head.j0 k bt111.1 bt111.2 bt113.1 bt113.2 bt115.2 false))))) = some r := H
  have A4 := Aside0.mk A40
  clear A40
  replace H := Option.bind_eq_some_iff.mp H
  obtain ⟨⟨t111, t112⟩, A50, H⟩ := H
  replace H : ((natural_Gcd.f (⟨#[48]⟩ : ByteArray) (⟨#[48]⟩ : ByteArray)).bind fun bt113 => ((natural_Int.f (⟨#[57, 50, 50, 51, 51, 55, 50, 48, 51, 54, 56, 53, 52, 55, 55, 53, 56, 48, 56]⟩ : ByteArray)).bind fun bt115 => (if t102 = 0 then (if t101.toList = ([49, 52, 52] : List UInt8) then (if t104 = 10 then (if t107 = 0 then (if t105.toList = ([49, 52] : List UInt8) then (if t106.toList = ([50] : List UInt8) then (customhouselaw04_head.j0 k t111 t112 bt113.1 bt113.2 bt115.2 (t110 == 15)) else (customhouselaw04_head.j0 k t111 t112 bt113.1 bt113.2 bt115.2 false)) else (customhouselaw04_head.j0 k t111 t112 bt113.1 bt113.2 bt115.2 false)) else (customhouselaw04_head.j0 k t111 t112 bt113.1 bt113.2 bt115.2 false)) else (customhouselaw04_head.j0 k t111 t112 bt113.1 bt113.2 bt115.2 false)) else (customhouselaw04_head.j0 k t111 t112 bt113.1 bt113.2 bt115.2 false)) else (customhouselaw04_head.j0 k t111 t112 bt113.1 bt113.2 bt115.2 false)))) = some r := H
  have A5 := Aside0.mk A50
  clear A50
  replace H := Option.bind_eq_some_iff.mp H
  obtain ⟨⟨t113, t114⟩, A60, H⟩ := H
  replace H : ((natural_Int.f (⟨#[57, 50, 50, 51, 51, 55, 50, 48, 51, 54, 56, 53, 52, 55, 55, 53, 56, 48, 56]⟩ : ByteArray)).bind fun bt115 => (if t102 = 0 then (if t101.toList = ([49, 52, 52] : List UInt8) then (if t104 = 10 then (if t107 = 0 then (if t105.toList = ([49, 52] : List UInt8) then (if t106.toList = ([50] : List UInt8) then (customhouselaw04_head.j0 k t111 t112 t113 t114 bt115.2 (t110 == 15)) else (customhouselaw04_head.j0 k t111 t112 t113 t114 bt115.2 false)) else (customhouselaw04_head.j0 k t111 t112 t113 t114 bt115.2 false)) else (customhouselaw04_head.j0 k t111 t112 t113 t114 bt115.2 false)) else (customhouselaw04_head.j0 k t111 t112 t113 t114 bt115.2 false)) else (customhouselaw04_head.j0 k t111 t112 t113 t114 bt115.2 false)) else (customhouselaw04_head.j0 k t111 t112 t113 t114 bt115.2 false))) = some r := H
  have A6 := Aside0.mk A60
  clear A60
  replace H := Option.bind_eq_some_iff.mp H
  obtain ⟨⟨t115, t116⟩, A70, H⟩ := H
  replace H : (if t102 = 0 then (if t101.toList = ([49, 52, 52] : List UInt8) then (if t104 = 10 then (if t107 = 0 then (if t105.toList = ([49, 52] : List UInt8) then (if t106.toList = ([50] : List UInt8) then (customhouselaw04_head.j0 k t111 t112 t113 t114 t116 (t110 == 15)) else (customhouselaw04_head.j0 k t111 t112 t113 t114 t116 false)) else (customhouselaw04_head.j0 k t111 t112 t113 t114 t116 false)) else (customhouselaw04_head.j0 k t111 t112 t113 t114 t116 false)) else (customhouselaw04_head.j0 k t111 t112 t113 t114 t116 false)) else (customhouselaw04_head.j0 k t111 t112 t113 t114 t116 false)) else (customhouselaw04_head.j0 k t111 t112 t113 t114 t116 false)) = some r := H
  have A7 := Aside0.mk A70
  clear A70
  have HC8 := Aside0.mk H
  clear H
  go_enter Tryz.func5, Tryz.ntmps5
  go_upto_region 8 with (first | ((with_reducible refine gate_callee (f := 22) rfl ?_); refine goesL_ (some 19) rfl rfl Tryz.func22 (by kernel_rfl) rfl #[.string (⟨#[49, 50]⟩ : ByteArray), .string (⟨#[49, 50]⟩ : ByteArray)] rfl (by (try simp only [List.map_toArray, List.map_cons, List.map_nil]); first | done | rfl | (simp only [List.length_drop, List.length_take]; rfl)) ?_; (with_reducible refine (natural_Mul.calls (⟨#[49, 50]⟩ : ByteArray) (⟨#[49, 50]⟩ : ByteArray) t101 t102 _ A1.out ?side1).mono ?_); (case side1 => exact GOK.below HG.out (by repeat (first | (with_reducible first | exact HB.out | apply below_alloc | apply pw_below_drewN | apply below_drew1) | exact HB.out))); rintro e w9 ⟨rfl, hb⟩; refine ⟨_, rfl, ?_⟩; have n0_ := Aside0.mk (below_step (by repeat (first | (with_reducible first | exact HB.out | apply below_alloc | apply pw_below_drewN | apply below_drew1) | exact HB.out)) hb); clear HB; have HB := n0_; clear n0_; (try clear hb); (try clear hb2); (try clear hk); (try clear hi)) | ((with_reducible refine gate_callee (f := 20) rfl ?_); refine goesL_ (some 23) rfl rfl Tryz.func20 (by kernel_rfl) rfl #[.string (⟨#[53]⟩ : ByteArray), .string (⟨#[55]⟩ : ByteArray)] rfl (by (try simp only [List.map_toArray, List.map_cons, List.map_nil]); first | done | rfl | (simp only [List.length_drop, List.length_take]; rfl)) ?_; (with_reducible refine (natural_Sub.calls (⟨#[53]⟩ : ByteArray) (⟨#[55]⟩ : ByteArray) t103 t104 _ A2.out ?side1).mono ?_); (case side1 => exact GOK.below HG.out (by repeat (first | (with_reducible first | exact HB.out | apply below_alloc | apply pw_below_drewN | apply below_drew1) | exact HB.out))); rintro e w10 ⟨rfl, hb⟩; refine ⟨_, rfl, ?_⟩; have n0_ := Aside0.mk (below_step (by repeat (first | (with_reducible first | exact HB.out | apply below_alloc | apply pw_below_drewN | apply below_drew1) | exact HB.out)) hb); clear HB; have HB := n0_; clear n0_; (try clear hb); (try clear hb2); (try clear hk); (try clear hi)) | ((with_reducible refine gate_callee (f := 6) rfl ?_); refine goesL_ (some 27) rfl rfl Tryz.func6 (by kernel_rfl) rfl #[.string (⟨#[49, 48, 48]⟩ : ByteArray), .string (⟨#[55]⟩ : ByteArray)] rfl (by (try simp only [List.map_toArray, List.map_cons, List.map_nil]); first | done | rfl | (simp only [List.length_drop, List.length_take]; rfl)) ?_; (with_reducible refine (natural_Div.calls (⟨#[49, 48, 48]⟩ : ByteArray) (⟨#[55]⟩ : ByteArray) t105 t106 t107 _ A3.out ?side1).mono ?_); (case side1 => exact GOK.below HG.out (by repeat (first | (with_reducible first | exact HB.out | apply below_alloc | apply pw_below_drewN | apply below_drew1) | exact HB.out))); rintro e w11 ⟨rfl, hb⟩; refine ⟨_, rfl, ?_⟩; have n0_ := Aside0.mk (below_step (by repeat (first | (with_reducible first | exact HB.out | apply below_alloc | apply pw_below_drewN | apply below_drew1) | exact HB.out)) hb); clear HB; have HB := n0_; clear n0_; (try clear hb); (try clear hb2); (try clear hk); (try clear hi)) | ((with_reducible refine gate_callee (f := 6) rfl ?_); refine goesL_ (some 32) rfl rfl Tryz.func6 (by kernel_rfl) rfl #[.string (⟨#[55]⟩ : ByteArray), .string (⟨#[48]⟩ : ByteArray)] rfl (by (try simp only [List.map_toArray, List.map_cons, List.map_nil]); first | done | rfl | (simp only [List.length_drop, List.length_take]; rfl)) ?_; (with_reducible refine (natural_Div.calls (⟨#[55]⟩ : ByteArray) (⟨#[48]⟩ : ByteArray) t108 t109 t110 _ A4.out ?side1).mono ?_); (case side1 => exact GOK.below HG.out (by repeat (first | (with_reducible first | exact HB.out | apply below_alloc | apply pw_below_drewN | apply below_drew1) | exact HB.out))); rintro e w12 ⟨rfl, hb⟩; refine ⟨_, rfl, ?_⟩; have n0_ := Aside0.mk (below_step (by repeat (first | (with_reducible first | exact HB.out | apply below_alloc | apply pw_below_drewN | apply below_drew1) | exact HB.out)) hb); clear HB; have HB := n0_; clear n0_; (try clear hb); (try clear hb2); (try clear hk); (try clear hi)) | ((with_reducible refine gate_callee (f := 8) rfl ?_); refine goesL_ (some 37) rfl rfl Tryz.func8 (by kernel_rfl) rfl #[.string (⟨#[49, 50]⟩ : ByteArray), .string (⟨#[49, 56]⟩ : ByteArray)] rfl (by (try simp only [List.map_toArray, List.map_cons, List.map_nil]); first | done | rfl | (simp only [List.length_drop, List.length_take]; rfl)) ?_; (with_reducible refine (natural_Gcd.calls (⟨#[49, 50]⟩ : ByteArray) (⟨#[49, 56]⟩ : ByteArray) t111 t112 _ A5.out ?side1).mono ?_); (case side1 => exact GOK.below HG.out (by repeat (first | (with_reducible first | exact HB.out | apply below_alloc | apply pw_below_drewN | apply below_drew1) | exact HB.out))); rintro e w13 ⟨rfl, hb⟩; refine ⟨_, rfl, ?_⟩; have n0_ := Aside0.mk (below_step (by repeat (first | (with_reducible first | exact HB.out | apply below_alloc | apply pw_below_drewN | apply below_drew1) | exact HB.out)) hb); clear HB; have HB := n0_; clear n0_; (try clear hb); (try clear hb2); (try clear hk); (try clear hi)) | ((with_reducible refine gate_callee (f := 8) rfl ?_); refine goesL_ (some 41) rfl rfl Tryz.func8 (by kernel_rfl) rfl #[.string (⟨#[48]⟩ : ByteArray), .string (⟨#[48]⟩ : ByteArray)] rfl (by (try simp only [List.map_toArray, List.map_cons, List.map_nil]); first | done | rfl | (simp only [List.length_drop, List.length_take]; rfl)) ?_; (with_reducible refine (natural_Gcd.calls (⟨#[48]⟩ : ByteArray) (⟨#[48]⟩ : ByteArray) t113 t114 _ A6.out ?side1).mono ?_); (case side1 => exact GOK.below HG.out (by repeat (first | (with_reducible first | exact HB.out | apply below_alloc | apply pw_below_drewN | apply below_drew1) | exact HB.out))); rintro e w14 ⟨rfl, hb⟩; refine ⟨_, rfl, ?_⟩; have n0_ := Aside0.mk (below_step (by repeat (first | (with_reducible first | exact HB.out | apply below_alloc | apply pw_below_drewN | apply below_drew1) | exact HB.out)) hb); clear HB; have HB := n0_; clear n0_; (try clear hb); (try clear hb2); (try clear hk); (try clear hi)) | ((with_reducible refine gate_callee (f := 10) rfl ?_); refine goesL_ (some 45) rfl rfl Tryz.func10 (by kernel_rfl) rfl #[.string (⟨#[57, 50, 50, 51, 51, 55, 50, 48, 51, 54, 56, 53, 52, 55, 55, 53, 56, 48, 56]⟩ : ByteArray)] rfl (by (try simp only [List.map_toArray, List.map_cons, List.map_nil]); first | done | rfl | (simp only [List.length_drop, List.length_take]; rfl)) ?_; (with_reducible refine (natural_Int.calls (⟨#[57, 50, 50, 51, 51, 55, 50, 48, 51, 54, 56, 53, 52, 55, 55, 53, 56, 48, 56]⟩ : ByteArray) t115 t116 _ A7.out ?side1).mono ?_); (case side1 => exact GOK.below HG.out (by repeat (first | (with_reducible first | exact HB.out | apply below_alloc | apply pw_below_drewN | apply below_drew1) | exact HB.out))); rintro e w15 ⟨rfl, hb⟩; refine ⟨_, rfl, ?_⟩; have n0_ := Aside0.mk (below_step (by repeat (first | (with_reducible first | exact HB.out | apply below_alloc | apply pw_below_drewN | apply below_drew1) | exact HB.out)) hb); clear HB; have HB := n0_; clear n0_; (try clear hb); (try clear hb2); (try clear hk); (try clear hi)))
  (try simp only [Act.put, List.setIfInBounds_toArray, List.set_cons_zero, List.set_cons_succ])
  go_cut [17] (fun v17 wc => ∃ (kq : Nat) (x17_7 : Bool), v17 = .bool x17_7 ∧ Aside0 (customhouselaw04_head.j0 kq t111 t112 t113 t114 t116 x17_7 = some r) ∧ Aside0 (kq ≤ k) ∧ Aside0 (Below w.heap.size w wc))
  case first =>
    have H := HC8.out
    clear HC8
    by_cases c16 : t102 = 0
    · rw [if_pos c16] at H
      have c16b0 : (t102 == 0) = true := beq_iff_eq.mpr c16
      have c16b1 : (t102 != 0) = false := bne_eq_false_iff_eq.mpr c16
      clear c16
      (first | rw [c16b0] | (simp only [i64_w, i32_w]; rw [c16b0]) | skip)
      by_cases c17 : t101.toList = ([49, 52, 52] : List UInt8)
      · rw [if_pos c17] at H
        have c17b0 : (t101.toList == ([49, 52, 52] : List UInt8)) = true := beq_iff_eq.mpr c17
        have c17b1 : (t101.toList != ([49, 52, 52] : List UInt8)) = false := bne_eq_false_iff_eq.mpr c17
        clear c17
        by_cases c18 : t104 = 10
        · rw [if_pos c18] at H
          have c18b0 : (t104 == 10) = true := beq_iff_eq.mpr c18
          have c18b1 : (t104 != 10) = false := bne_eq_false_iff_eq.mpr c18
          clear c18
          by_cases c19 : t107 = 0
          · rw [if_pos c19] at H
            have c19b0 : (t107 == 0) = true := beq_iff_eq.mpr c19
            have c19b1 : (t107 != 0) = false := bne_eq_false_iff_eq.mpr c19
            clear c19
            by_cases c20 : t105.toList = ([49, 52] : List UInt8)
            · rw [if_pos c20] at H
              have c20b0 : (t105.toList == ([49, 52] : List UInt8)) = true := beq_iff_eq.mpr c20
              have c20b1 : (t105.toList != ([49, 52] : List UInt8)) = false := bne_eq_false_iff_eq.mpr c20
              clear c20
              by_cases c21 : t106.toList = ([50] : List UInt8)
              · rw [if_pos c21] at H
                have c21b0 : (t106.toList == ([50] : List UInt8)) = true := beq_iff_eq.mpr c21
                have c21b1 : (t106.toList != ([50] : List UInt8)) = false := bne_eq_false_iff_eq.mpr c21
                clear c21
                have H' := Aside0.mk H
                clear H
                go_wp2
                go_meet
                case rel => exact ⟨_, ((t110 == 15)), (by first | rfl | (simp; done) | (simp [*]; done)), H', ⟨by first | omega | exact Nat.le_refl _⟩, ⟨by repeat (first | (with_reducible first | exact HB.out | apply below_alloc | apply pw_below_drewN | apply below_drew1) | exact HB.out)⟩⟩
              · rw [if_neg c21] at H
                have c21b0 : (t106.toList == ([50] : List UInt8)) = false := beq_eq_false_iff_ne.mpr c21
                have c21b1 : (t106.toList != ([50] : List UInt8)) = true := bne_iff_ne.mpr c21
                have H' := Aside0.mk H
                clear H
                go_wp2
                go_meet
                case rel => exact ⟨_, (false), (by first | rfl | (simp; done) | (simp [*]; done)), H', ⟨by first | omega | exact Nat.le_refl _⟩, ⟨by repeat (first | (with_reducible first | exact HB.out | apply below_alloc | apply pw_below_drewN | apply below_drew1) | exact HB.out)⟩⟩
            · rw [if_neg c20] at H
              have c20b0 : (t105.toList == ([49, 52] : List UInt8)) = false := beq_eq_false_iff_ne.mpr c20
              have c20b1 : (t105.toList != ([49, 52] : List UInt8)) = true := bne_iff_ne.mpr c20
              have H' := Aside0.mk H
              clear H
              go_wp2
              go_meet
              case rel => exact ⟨_, (false), (by first | rfl | (simp; done) | (simp [*]; done)), H', ⟨by first | omega | exact Nat.le_refl _⟩, ⟨by repeat (first | (with_reducible first | exact HB.out | apply below_alloc | apply pw_below_drewN | apply below_drew1) | exact HB.out)⟩⟩
          · rw [if_neg c19] at H
            have c19b0 : (t107 == 0) = false := beq_eq_false_iff_ne.mpr c19
            have c19b1 : (t107 != 0) = true := bne_iff_ne.mpr c19
            have H' := Aside0.mk H
            clear H
            go_wp2
            go_meet
            case rel => exact ⟨_, (false), (by first | rfl | (simp; done) | (simp [*]; done)), H', ⟨by first | omega | exact Nat.le_refl _⟩, ⟨by repeat (first | (with_reducible first | exact HB.out | apply below_alloc | apply pw_below_drewN | apply below_drew1) | exact HB.out)⟩⟩
        · rw [if_neg c18] at H
          have c18b0 : (t104 == 10) = false := beq_eq_false_iff_ne.mpr c18
          have c18b1 : (t104 != 10) = true := bne_iff_ne.mpr c18
          have H' := Aside0.mk H
          clear H
          go_wp2
          go_meet
          case rel => exact ⟨_, (false), (by first | rfl | (simp; done) | (simp [*]; done)), H', ⟨by first | omega | exact Nat.le_refl _⟩, ⟨by repeat (first | (with_reducible first | exact HB.out | apply below_alloc | apply pw_below_drewN | apply below_drew1) | exact HB.out)⟩⟩
      · rw [if_neg c17] at H
        have c17b0 : (t101.toList == ([49, 52, 52] : List UInt8)) = false := beq_eq_false_iff_ne.mpr c17
        have c17b1 : (t101.toList != ([49, 52, 52] : List UInt8)) = true := bne_iff_ne.mpr c17
        have H' := Aside0.mk H
        clear H
        go_wp2
        go_meet
        case rel => exact ⟨_, (false), (by first | rfl | (simp; done) | (simp [*]; done)), H', ⟨by first | omega | exact Nat.le_refl _⟩, ⟨by repeat (first | (with_reducible first | exact HB.out | apply below_alloc | apply pw_below_drewN | apply below_drew1) | exact HB.out)⟩⟩
    · rw [if_neg c16] at H
      have c16b0 : (t102 == 0) = false := beq_eq_false_iff_ne.mpr c16
      have c16b1 : (t102 != 0) = true := bne_iff_ne.mpr c16
      (first | rw [c16b0] | (simp only [i64_w, i32_w]; rw [c16b0]) | skip)
      have H' := Aside0.mk H
      clear H
      go_wp2
      go_meet
      case rel => exact ⟨_, (false), (by first | rfl | (simp; done) | (simp [*]; done)), H', ⟨by first | omega | exact Nat.le_refl _⟩, ⟨by repeat (first | (with_reducible first | exact HB.out | apply below_alloc | apply pw_below_drewN | apply below_drew1) | exact HB.out)⟩⟩
  case rest =>
    clear HC8
    try clear c1
    try clear c2
    try clear p2
    try clear c5
    try clear c6
    try clear c8
    try clear c10
    try clear c16
    try clear c16b0
    try clear c16b1
    try clear c17
    try clear c17b0
    try clear c17b1
    try clear c18
    try clear c18b0
    try clear c18b1
    try clear c19
    try clear c19b0
    try clear c19b1
    try clear c20
    try clear c20b0
    try clear c20b1
    try clear c21
    try clear c21b0
    try clear c21b1
    obtain ⟨kq, x17_7, rfl, HA, HJ7, HB⟩ := hcut
    cases kq with
    | zero => exact absurd HA.out (by simp [customhouselaw04_head.j0])
    | succ kj7 =>
      have H := HA.out
      clear HA
      simp only [customhouselaw04_head.j0] at H
      by_cases c22 : x17_7 = true
      · subst c22
        have H1 : (if t112 = 0 then (if t111.toList = ([54] : List UInt8) then (if t114 = 0 then (if t113.toList = ([48] : List UInt8) then (if t116 = 10 then ((natural_Of.f (-1)).bind fun t117 => (if t117.toList = ([] : List UInt8) then ((natural_Is.f (⟨#[48]⟩ : ByteArray)).bind fun t118 => (if t118 = true then ((natural_Is.f (⟨#[48, 48]⟩ : ByteArray)).bind fun t119 => (if t119 = true then (some false) else ((natural_Is.f (⟨#[]⟩ : ByteArray)).bind fun t120 => (if t120 = true then (some false) else ((natural_Is.f (⟨#[49, 50]⟩ : ByteArray)).bind fun t121 => (some t121)))))) else (some false))) else (some false))) else (some false)) else (some false)) else (some false)) else (some false)) else (some false)) = some r := by rw [if_pos rfl] at H; exact H
        clear H
        have H := H1
        clear H1
        by_cases c23 : t112 = 0
        · rw [if_pos c23] at H
          have c23b0 : (t112 == 0) = true := beq_iff_eq.mpr c23
          have c23b1 : (t112 != 0) = false := bne_eq_false_iff_eq.mpr c23
          clear c23
          by_cases c24 : t111.toList = ([54] : List UInt8)
          · rw [if_pos c24] at H
            have c24b0 : (t111.toList == ([54] : List UInt8)) = true := beq_iff_eq.mpr c24
            have c24b1 : (t111.toList != ([54] : List UInt8)) = false := bne_eq_false_iff_eq.mpr c24
            clear c24
            by_cases c25 : t114 = 0
            · rw [if_pos c25] at H
              have c25b0 : (t114 == 0) = true := beq_iff_eq.mpr c25
              have c25b1 : (t114 != 0) = false := bne_eq_false_iff_eq.mpr c25
              clear c25
              by_cases c26 : t113.toList = ([48] : List UInt8)
              · rw [if_pos c26] at H
                have c26b0 : (t113.toList == ([48] : List UInt8)) = true := beq_iff_eq.mpr c26
                have c26b1 : (t113.toList != ([48] : List UInt8)) = false := bne_eq_false_iff_eq.mpr c26
                clear c26
                by_cases c27 : t116 = 10
                · rw [if_pos c27] at H
                  have c27b0 : (t116 == 10) = true := beq_iff_eq.mpr c27
                  have c27b1 : (t116 != 10) = false := bne_eq_false_iff_eq.mpr c27
                  clear c27
                  replace H := Option.bind_eq_some_iff.mp H
                  obtain ⟨t117, A280, H⟩ := H
                  replace H : (if t117.toList = ([] : List UInt8) then ((natural_Is.f (⟨#[48]⟩ : ByteArray)).bind fun t118 => (if t118 = true then ((natural_Is.f (⟨#[48, 48]⟩ : ByteArray)).bind fun t119 => (if t119 = true then (some false) else ((natural_Is.f (⟨#[]⟩ : ByteArray)).bind fun t120 => (if t120 = true then (some false) else ((natural_Is.f (⟨#[49, 50]⟩ : ByteArray)).bind fun t121 => (some t121)))))) else (some false))) else (some false)) = some r := H
                  have A28 := Aside0.mk A280
                  clear A280
                  by_cases c29 : t117.toList = ([] : List UInt8)
                  · rw [if_pos c29] at H
                    have c29b0 : (t117.toList == ([] : List UInt8)) = true := beq_iff_eq.mpr c29
                    have c29b1 : (t117.toList != ([] : List UInt8)) = false := bne_eq_false_iff_eq.mpr c29
                    clear c29
                    replace H := Option.bind_eq_some_iff.mp H
                    obtain ⟨t118, A300, H⟩ := H
                    replace H : (if t118 = true then ((natural_Is.f (⟨#[48, 48]⟩ : ByteArray)).bind fun t119 => (if t119 = true then (some false) else ((natural_Is.f (⟨#[]⟩ : ByteArray)).bind fun t120 => (if t120 = true then (some false) else ((natural_Is.f (⟨#[49, 50]⟩ : ByteArray)).bind fun t121 => (some t121)))))) else (some false)) = some r := H
                    have A30 := Aside0.mk A300
                    clear A300
                    by_cases c31 : t118 = true
                    · subst c31
                      have H1 : ((natural_Is.f (⟨#[48, 48]⟩ : ByteArray)).bind fun t119 => (if t119 = true then (some false) else ((natural_Is.f (⟨#[]⟩ : ByteArray)).bind fun t120 => (if t120 = true then (some false) else ((natural_Is.f (⟨#[49, 50]⟩ : ByteArray)).bind fun t121 => (some t121)))))) = some r := by rw [if_pos rfl] at H; exact H
                      clear H
                      have H := H1
                      clear H1
                      replace H := Option.bind_eq_some_iff.mp H
                      obtain ⟨t119, A320, H⟩ := H
                      replace H : (if t119 = true then (some false) else ((natural_Is.f (⟨#[]⟩ : ByteArray)).bind fun t120 => (if t120 = true then (some false) else ((natural_Is.f (⟨#[49, 50]⟩ : ByteArray)).bind fun t121 => (some t121))))) = some r := H
                      have A32 := Aside0.mk A320
                      clear A320
                      by_cases c33 : t119 = true
                      · subst c33
                        have H1 : (some false) = some r := by rw [if_pos rfl] at H; exact H
                        clear H
                        have H := H1
                        clear H1
                        obtain rfl := Option.some.inj H
                        go_wp2_with (first | (go_at_call 16; (with_reducible refine (natural_Of.calls (-1) t117 _ A28.out ?side1).mono ?_); (case side1 => exact GOK.below HG.out (by repeat (first | (with_reducible first | exact HB.out | apply below_alloc | apply pw_below_drewN | apply below_drew1) | exact HB.out))); rintro e w34 ⟨rfl, hb⟩; have n0_ := Aside0.mk (below_step (by repeat (first | (with_reducible first | exact HB.out | apply below_alloc | apply pw_below_drewN | apply below_drew1) | exact HB.out)) hb); clear HB; have HB := n0_; clear n0_; (try clear hb); (try clear hb2); (try clear hk); (try clear hi)) | (go_at_call 14; (with_reducible refine (natural_Is.calls (⟨#[48]⟩ : ByteArray) true _ A30.out).mono ?_); rintro e w35 ⟨rfl, hb⟩; have n0_ := Aside0.mk (below_step (by repeat (first | (with_reducible first | exact HB.out | apply below_alloc | apply pw_below_drewN | apply below_drew1) | exact HB.out)) hb); clear HB; have HB := n0_; clear n0_; (try clear hb); (try clear hb2); (try clear hk); (try clear hi)) | (go_at_call 14; (with_reducible refine (natural_Is.calls (⟨#[48, 48]⟩ : ByteArray) true _ A32.out).mono ?_); rintro e w36 ⟨rfl, hb⟩; have n0_ := Aside0.mk (below_step (by repeat (first | (with_reducible first | exact HB.out | apply below_alloc | apply pw_below_drewN | apply below_drew1) | exact HB.out)) hb); clear HB; have HB := n0_; clear n0_; (try clear hb); (try clear hb2); (try clear hk); (try clear hi)))
                        go_ret
                        exact ⟨by first | rfl | (simp [errW_none, errW_some] <;> rfl) | (simp [*, errW_none, errW_some] <;> rfl), by repeat (first | (with_reducible first | exact HB.out | apply below_alloc | apply pw_below_drewN | apply below_drew1) | exact HB.out)⟩
                      · replace c33 := Bool.eq_false_iff.mpr c33
                        subst c33
                        have H1 : ((natural_Is.f (⟨#[]⟩ : ByteArray)).bind fun t120 => (if t120 = true then (some false) else ((natural_Is.f (⟨#[49, 50]⟩ : ByteArray)).bind fun t121 => (some t121)))) = some r := by rw [if_neg (show ¬ (false = true) by decide)] at H; exact H
                        clear H
                        have H := H1
                        clear H1
                        replace H := Option.bind_eq_some_iff.mp H
                        obtain ⟨t120, A370, H⟩ := H
                        replace H : (if t120 = true then (some false) else ((natural_Is.f (⟨#[49, 50]⟩ : ByteArray)).bind fun t121 => (some t121))) = some r := H
                        have A37 := Aside0.mk A370
                        clear A370
                        by_cases c38 : t120 = true
                        · subst c38
                          have H1 : (some false) = some r := by rw [if_pos rfl] at H; exact H
                          clear H
                          have H := H1
                          clear H1
                          obtain rfl := Option.some.inj H
                          go_wp2_with (first | (go_at_call 16; (with_reducible refine (natural_Of.calls (-1) t117 _ A28.out ?side1).mono ?_); (case side1 => exact GOK.below HG.out (by repeat (first | (with_reducible first | exact HB.out | apply below_alloc | apply pw_below_drewN | apply below_drew1) | exact HB.out))); rintro e w39 ⟨rfl, hb⟩; have n0_ := Aside0.mk (below_step (by repeat (first | (with_reducible first | exact HB.out | apply below_alloc | apply pw_below_drewN | apply below_drew1) | exact HB.out)) hb); clear HB; have HB := n0_; clear n0_; (try clear hb); (try clear hb2); (try clear hk); (try clear hi)) | (go_at_call 14; (with_reducible refine (natural_Is.calls (⟨#[48]⟩ : ByteArray) true _ A30.out).mono ?_); rintro e w40 ⟨rfl, hb⟩; have n0_ := Aside0.mk (below_step (by repeat (first | (with_reducible first | exact HB.out | apply below_alloc | apply pw_below_drewN | apply below_drew1) | exact HB.out)) hb); clear HB; have HB := n0_; clear n0_; (try clear hb); (try clear hb2); (try clear hk); (try clear hi)) | (go_at_call 14; (with_reducible refine (natural_Is.calls (⟨#[48, 48]⟩ : ByteArray) false _ A32.out).mono ?_); rintro e w41 ⟨rfl, hb⟩; have n0_ := Aside0.mk (below_step (by repeat (first | (with_reducible first | exact HB.out | apply below_alloc | apply pw_below_drewN | apply below_drew1) | exact HB.out)) hb); clear HB; have HB := n0_; clear n0_; (try clear hb); (try clear hb2); (try clear hk); (try clear hi)) | (go_at_call 14; (with_reducible refine (natural_Is.calls (⟨#[]⟩ : ByteArray) true _ A37.out).mono ?_); rintro e w42 ⟨rfl, hb⟩; have n0_ := Aside0.mk (below_step (by repeat (first | (with_reducible first | exact HB.out | apply below_alloc | apply pw_below_drewN | apply below_drew1) | exact HB.out)) hb); clear HB; have HB := n0_; clear n0_; (try clear hb); (try clear hb2); (try clear hk); (try clear hi)))
                          go_ret
                          exact ⟨by first | rfl | (simp [errW_none, errW_some] <;> rfl) | (simp [*, errW_none, errW_some] <;> rfl), by repeat (first | (with_reducible first | exact HB.out | apply below_alloc | apply pw_below_drewN | apply below_drew1) | exact HB.out)⟩
                        · replace c38 := Bool.eq_false_iff.mpr c38
                          subst c38
                          have H1 : ((natural_Is.f (⟨#[49, 50]⟩ : ByteArray)).bind fun t121 => (some t121)) = some r := by rw [if_neg (show ¬ (false = true) by decide)] at H; exact H
                          clear H
                          have H := H1
                          clear H1
                          replace H := Option.bind_eq_some_iff.mp H
                          obtain ⟨t121, A430, H⟩ := H
                          replace H : (some t121) = some r := H
                          have A43 := Aside0.mk A430
                          clear A430
                          obtain rfl := Option.some.inj H
                          go_wp2_with (first | (go_at_call 16; (with_reducible refine (natural_Of.calls (-1) t117 _ A28.out ?side1).mono ?_); (case side1 => exact GOK.below HG.out (by repeat (first | (with_reducible first | exact HB.out | apply below_alloc | apply pw_below_drewN | apply below_drew1) | exact HB.out))); rintro e w44 ⟨rfl, hb⟩; have n0_ := Aside0.mk (below_step (by repeat (first | (with_reducible first | exact HB.out | apply below_alloc | apply pw_below_drewN | apply below_drew1) | exact HB.out)) hb); clear HB; have HB := n0_; clear n0_; (try clear hb); (try clear hb2); (try clear hk); (try clear hi)) | (go_at_call 14; (with_reducible refine (natural_Is.calls (⟨#[48]⟩ : ByteArray) true _ A30.out).mono ?_); rintro e w45 ⟨rfl, hb⟩; have n0_ := Aside0.mk (below_step (by repeat (first | (with_reducible first | exact HB.out | apply below_alloc | apply pw_below_drewN | apply below_drew1) | exact HB.out)) hb); clear HB; have HB := n0_; clear n0_; (try clear hb); (try clear hb2); (try clear hk); (try clear hi)) | (go_at_call 14; (with_reducible refine (natural_Is.calls (⟨#[48, 48]⟩ : ByteArray) false _ A32.out).mono ?_); rintro e w46 ⟨rfl, hb⟩; have n0_ := Aside0.mk (below_step (by repeat (first | (with_reducible first | exact HB.out | apply below_alloc | apply pw_below_drewN | apply below_drew1) | exact HB.out)) hb); clear HB; have HB := n0_; clear n0_; (try clear hb); (try clear hb2); (try clear hk); (try clear hi)) | (go_at_call 14; (with_reducible refine (natural_Is.calls (⟨#[]⟩ : ByteArray) false _ A37.out).mono ?_); rintro e w47 ⟨rfl, hb⟩; have n0_ := Aside0.mk (below_step (by repeat (first | (with_reducible first | exact HB.out | apply below_alloc | apply pw_below_drewN | apply below_drew1) | exact HB.out)) hb); clear HB; have HB := n0_; clear n0_; (try clear hb); (try clear hb2); (try clear hk); (try clear hi)) | (go_at_call 14; (with_reducible refine (natural_Is.calls (⟨#[49, 50]⟩ : ByteArray) t121 _ A43.out).mono ?_); rintro e w48 ⟨rfl, hb⟩; have n0_ := Aside0.mk (below_step (by repeat (first | (with_reducible first | exact HB.out | apply below_alloc | apply pw_below_drewN | apply below_drew1) | exact HB.out)) hb); clear HB; have HB := n0_; clear n0_; (try clear hb); (try clear hb2); (try clear hk); (try clear hi)))
                          go_ret
                          exact ⟨by first | rfl | (simp [errW_none, errW_some] <;> rfl) | (simp [*, errW_none, errW_some] <;> rfl), by repeat (first | (with_reducible first | exact HB.out | apply below_alloc | apply pw_below_drewN | apply below_drew1) | exact HB.out)⟩
                    · replace c31 := Bool.eq_false_iff.mpr c31
                      subst c31
                      have H1 : (some false) = some r := by rw [if_neg (show ¬ (false = true) by decide)] at H; exact H
                      clear H
                      have H := H1
                      clear H1
                      obtain rfl := Option.some.inj H
                      go_wp2_with (first | (go_at_call 16; (with_reducible refine (natural_Of.calls (-1) t117 _ A28.out ?side1).mono ?_); (case side1 => exact GOK.below HG.out (by repeat (first | (with_reducible first | exact HB.out | apply below_alloc | apply pw_below_drewN | apply below_drew1) | exact HB.out))); rintro e w49 ⟨rfl, hb⟩; have n0_ := Aside0.mk (below_step (by repeat (first | (with_reducible first | exact HB.out | apply below_alloc | apply pw_below_drewN | apply below_drew1) | exact HB.out)) hb); clear HB; have HB := n0_; clear n0_; (try clear hb); (try clear hb2); (try clear hk); (try clear hi)) | (go_at_call 14; (with_reducible refine (natural_Is.calls (⟨#[48]⟩ : ByteArray) false _ A30.out).mono ?_); rintro e w50 ⟨rfl, hb⟩; have n0_ := Aside0.mk (below_step (by repeat (first | (with_reducible first | exact HB.out | apply below_alloc | apply pw_below_drewN | apply below_drew1) | exact HB.out)) hb); clear HB; have HB := n0_; clear n0_; (try clear hb); (try clear hb2); (try clear hk); (try clear hi)))
                      go_ret
                      exact ⟨by first | rfl | (simp [errW_none, errW_some] <;> rfl) | (simp [*, errW_none, errW_some] <;> rfl), by repeat (first | (with_reducible first | exact HB.out | apply below_alloc | apply pw_below_drewN | apply below_drew1) | exact HB.out)⟩
                  · rw [if_neg c29] at H
                    have c29b0 : (t117.toList == ([] : List UInt8)) = false := beq_eq_false_iff_ne.mpr c29
                    have c29b1 : (t117.toList != ([] : List UInt8)) = true := bne_iff_ne.mpr c29
                    obtain rfl := Option.some.inj H
                    go_wp2_with (first | (go_at_call 16; (with_reducible refine (natural_Of.calls (-1) t117 _ A28.out ?side1).mono ?_); (case side1 => exact GOK.below HG.out (by repeat (first | (with_reducible first | exact HB.out | apply below_alloc | apply pw_below_drewN | apply below_drew1) | exact HB.out))); rintro e w51 ⟨rfl, hb⟩; have n0_ := Aside0.mk (below_step (by repeat (first | (with_reducible first | exact HB.out | apply below_alloc | apply pw_below_drewN | apply below_drew1) | exact HB.out)) hb); clear HB; have HB := n0_; clear n0_; (try clear hb); (try clear hb2); (try clear hk); (try clear hi)))
                    go_ret
                    exact ⟨by first | rfl | (simp [errW_none, errW_some] <;> rfl) | (simp [*, errW_none, errW_some] <;> rfl), by repeat (first | (with_reducible first | exact HB.out | apply below_alloc | apply pw_below_drewN | apply below_drew1) | exact HB.out)⟩
                · rw [if_neg c27] at H
                  have c27b0 : (t116 == 10) = false := beq_eq_false_iff_ne.mpr c27
                  have c27b1 : (t116 != 10) = true := bne_iff_ne.mpr c27
                  obtain rfl := Option.some.inj H
                  go_wp2
                  go_ret
                  exact ⟨by first | rfl | (simp [errW_none, errW_some] <;> rfl) | (simp [*, errW_none, errW_some] <;> rfl), by repeat (first | (with_reducible first | exact HB.out | apply below_alloc | apply pw_below_drewN | apply below_drew1) | exact HB.out)⟩
              · rw [if_neg c26] at H
                have c26b0 : (t113.toList == ([48] : List UInt8)) = false := beq_eq_false_iff_ne.mpr c26
                have c26b1 : (t113.toList != ([48] : List UInt8)) = true := bne_iff_ne.mpr c26
                obtain rfl := Option.some.inj H
                go_wp2
                go_ret
                exact ⟨by first | rfl | (simp [errW_none, errW_some] <;> rfl) | (simp [*, errW_none, errW_some] <;> rfl), by repeat (first | (with_reducible first | exact HB.out | apply below_alloc | apply pw_below_drewN | apply below_drew1) | exact HB.out)⟩
            · rw [if_neg c25] at H
              have c25b0 : (t114 == 0) = false := beq_eq_false_iff_ne.mpr c25
              have c25b1 : (t114 != 0) = true := bne_iff_ne.mpr c25
              obtain rfl := Option.some.inj H
              go_wp2
              go_ret
              exact ⟨by first | rfl | (simp [errW_none, errW_some] <;> rfl) | (simp [*, errW_none, errW_some] <;> rfl), by repeat (first | (with_reducible first | exact HB.out | apply below_alloc | apply pw_below_drewN | apply below_drew1) | exact HB.out)⟩
          · rw [if_neg c24] at H
            have c24b0 : (t111.toList == ([54] : List UInt8)) = false := beq_eq_false_iff_ne.mpr c24
            have c24b1 : (t111.toList != ([54] : List UInt8)) = true := bne_iff_ne.mpr c24
            obtain rfl := Option.some.inj H
            go_wp2
            go_ret
            exact ⟨by first | rfl | (simp [errW_none, errW_some] <;> rfl) | (simp [*, errW_none, errW_some] <;> rfl), by repeat (first | (with_reducible first | exact HB.out | apply below_alloc | apply pw_below_drewN | apply below_drew1) | exact HB.out)⟩
        · rw [if_neg c23] at H
          have c23b0 : (t112 == 0) = false := beq_eq_false_iff_ne.mpr c23
          have c23b1 : (t112 != 0) = true := bne_iff_ne.mpr c23
          obtain rfl := Option.some.inj H
          go_wp2
          go_ret
          exact ⟨by first | rfl | (simp [errW_none, errW_some] <;> rfl) | (simp [*, errW_none, errW_some] <;> rfl), by repeat (first | (with_reducible first | exact HB.out | apply below_alloc | apply pw_below_drewN | apply below_drew1) | exact HB.out)⟩
      · replace c22 := Bool.eq_false_iff.mpr c22
        subst c22
        have H1 : (some false) = some r := by rw [if_neg (show ¬ (false = true) by decide)] at H; exact H
        clear H
        have H := H1
        clear H1
        obtain rfl := Option.some.inj H
        go_wp2
        go_ret
        exact ⟨by first | rfl | (simp [errW_none, errW_some] <;> rfl) | (simp [*, errW_none, errW_some] <;> rfl), by repeat (first | (with_reducible first | exact HB.out | apply below_alloc | apply pw_below_drewN | apply below_drew1) | exact HB.out)⟩

/-! ### customhouseref04_number: function 35 -/
def customhouseref04_number.l0 : Nat → ByteArray → Int → Option (Bool)
  | 0, _, _ => none
  | k + 1, x0, x3 => if x3 < (x0.size : Int) then (if 0 ≤ x3 then (if (bt x0 x3) < 48 then (some false) else (if (bt x0 x3) > 57 then (some false) else (customhouseref04_number.l0 k x0 (wrap64 (x3 + 1))))) else (none)) else (if (x0.size : Int) = 1 then (some true) else (if (x0.size : Int) > 1 then (if 0 < (x0.size : Int) then (some ((bt x0 0) != 48)) else (none)) else (some false)))
def customhouseref04_number.f (k : Nat) (a0 : ByteArray) : Option (Bool) := customhouseref04_number.l0 k a0 0
theorem customhouseref04_number.mono_l : ∀ k, (∀ y0 y1, LeO (customhouseref04_number.l0 k y0 y1) (customhouseref04_number.l0 (k + 1) y0 y1))
  | 0 => fun _ _ r h => by simp [customhouseref04_number.l0] at h
  | k + 1 => by
    have ih0 := customhouseref04_number.mono_l k
    · intro y0 y1
      unfold customhouseref04_number.l0
      repeat' first
      | (with_reducible exact ih0 _ _)
      | (with_reducible exact LeO.refl _)
      | (with_reducible exact LeO.none _)
      | (with_reducible refine LeO.ite ?_ ?_)
      | (with_reducible refine LeO.bind ?_ (fun _ => ?_))
      | exact ih0 _ _
      | exact LeO.none _
      | refine LeO.ite ?_ ?_
      | refine LeO.bind ?_ (fun _ => ?_)
theorem customhouseref04_number.mono : ∀ a0 k, LeO (customhouseref04_number.f k a0) (customhouseref04_number.f (k + 1) a0) := by
  intro a0 k
  have ih0 := customhouseref04_number.mono_l k
  unfold customhouseref04_number.f
  repeat' first
      | (with_reducible exact ih0 _ _)
      | (with_reducible exact LeO.refl _)
      | (with_reducible exact LeO.none _)
      | (with_reducible refine LeO.ite ?_ ?_)
      | (with_reducible refine LeO.bind ?_ (fun _ => ?_))
      | exact ih0 _ _
      | exact LeO.none _
      | refine LeO.ite ?_ ?_
      | refine LeO.bind ?_ (fun _ => ?_)
set_option maxHeartbeats 8000000 in
set_option maxRecDepth 100000 in
theorem customhouseref04_number.calls (k : Nat) (a0 : ByteArray) (r : Bool) (w : World) (h : customhouseref04_number.f k a0 = some r) :
    Calls Tryz.prog 35 #[.string a0] w fun e w' => e = .returned (.bool r) ∧ Drawn0 w w' := by
  have H : (customhouseref04_number.l0 k a0 0) = some r := h
  clear h
  have H' := Aside0.mk H
  clear H
  go_enter Tryz.func35, Tryz.ntmps35
  go_wp2
  go_loopg [3] k (fun kq v3 w' => ∃ (x3_1 : Int), v3 = .int .i64 x3_1 ∧ Aside0 (customhouseref04_number.l0 kq a0 x3_1 = some r) ∧ Aside0 (kq ≤ k) ∧ Drawn0 w w')
  case atStart => exact ⟨(0), (by first | rfl | (simp; done) | (simp [*]; done)), H', ⟨Nat.le_refl _⟩, by repeat (first | exact Drawn0.refl _ | apply Drawn0.step)⟩
  case round =>
    clear H'
    obtain ⟨x3_1, rfl, HA, HK1, ⟨m1, rfl⟩⟩ := hrel
    cases gk with
    | zero => exact absurd HA.out (by simp [customhouseref04_number.l0])
    | succ k1 =>
      have H := HA.out
      clear HA
      simp only [customhouseref04_number.l0] at H
      by_cases c2 : x3_1 < (a0.size : Int)
      · rw [if_pos c2] at H
        have c2b0 : decide (x3_1 < (a0.size : Int)) = true := decide_eq_true c2
        clear c2
        by_cases c3 : 0 ≤ x3_1
        · rw [if_pos c3] at H
          have c3b0 : decide (0 ≤ x3_1) = true := decide_eq_true c3
          clear c3
          by_cases c5 : (bt a0 x3_1) < 48
          · rw [if_pos c5] at H
            have c5b0 : decide ((bt a0 x3_1) < 48) = true := decide_eq_true c5
            clear c5
            obtain rfl := Option.some.inj H
            have p4 : 0 ≤ (x3_1 : Int) := of_decide_eq_true (by first | (with_reducible assumption) | assumption)
            have q4 : x3_1 < (a0.size : Int) := of_decide_eq_true (by first | (with_reducible assumption) | assumption)
            have hx4 := bt_at a0 x3_1
            replace p4 := eq_true p4
            replace q4 := eq_true q4
            go_wp2
            go_ret
            exact ⟨by first | rfl | (simp; done) | (simp [*]; done), by repeat (first | exact Drawn0.refl _ | apply Drawn0.step)⟩
          · rw [if_neg c5] at H
            have c5b0 : decide ((bt a0 x3_1) < 48) = false := decide_eq_false c5
            clear c5
            by_cases c7 : (bt a0 x3_1) > 57
            · rw [if_pos c7] at H
              have c7b0 : decide (57 < (bt a0 x3_1)) = true := decide_eq_true c7
              clear c7
              obtain rfl := Option.some.inj H
              have p4 : 0 ≤ (x3_1 : Int) := of_decide_eq_true (by first | (with_reducible assumption) | assumption)
              have q4 : x3_1 < (a0.size : Int) := of_decide_eq_true (by first | (with_reducible assumption) | assumption)
              have hx4 := bt_at a0 x3_1
              replace p4 := eq_true p4
              replace q4 := eq_true q4
              have p6 : 0 ≤ (x3_1 : Int) := of_decide_eq_true (by first | (with_reducible assumption) | assumption)
              have q6 : x3_1 < (a0.size : Int) := of_decide_eq_true (by first | (with_reducible assumption) | assumption)
              have hx6 := bt_at a0 x3_1
              replace p6 := eq_true p6
              replace q6 := eq_true q6
              go_wp2
              go_ret
              exact ⟨by first | rfl | (simp; done) | (simp [*]; done), by repeat (first | exact Drawn0.refl _ | apply Drawn0.step)⟩
            · rw [if_neg c7] at H
              have c7b0 : decide (57 < (bt a0 x3_1)) = false := decide_eq_false c7
              clear c7
              have H' := Aside0.mk H
              clear H
              have p4 : 0 ≤ (x3_1 : Int) := of_decide_eq_true (by first | (with_reducible assumption) | assumption)
              have q4 : x3_1 < (a0.size : Int) := of_decide_eq_true (by first | (with_reducible assumption) | assumption)
              have hx4 := bt_at a0 x3_1
              replace p4 := eq_true p4
              replace q4 := eq_true q4
              have p6 : 0 ≤ (x3_1 : Int) := of_decide_eq_true (by first | (with_reducible assumption) | assumption)
              have q6 : x3_1 < (a0.size : Int) := of_decide_eq_true (by first | (with_reducible assumption) | assumption)
              have hx6 := bt_at a0 x3_1
              replace p6 := eq_true p6
              replace q6 := eq_true q6
              go_wp2
              go_roundg k1
              case measure => have := HK1.out; omega
              case rel => exact ⟨(wrap64 (x3_1 + 1)), (by first | rfl | (simp; done) | (simp [*]; done)), H', ⟨by have := HK1.out; omega⟩, by repeat (first | exact Drawn0.refl _ | apply Drawn0.step)⟩
        · rw [if_neg c3] at H
          exact absurd H (by simp)
      · rw [if_neg c2] at H
        have c2b0 : decide (x3_1 < (a0.size : Int)) = false := decide_eq_false c2
        clear c2
        by_cases c8 : (a0.size : Int) = 1
        · rw [if_pos c8] at H
          have c8b0 : ((a0.size : Int) == 1) = true := beq_iff_eq.mpr c8
          have c8b1 : ((a0.size : Int) != 1) = false := bne_eq_false_iff_eq.mpr c8
          clear c8
          obtain rfl := Option.some.inj H
          go_wp2
          go_ret
          exact ⟨by first | rfl | (simp; done) | (simp [*]; done), by repeat (first | exact Drawn0.refl _ | apply Drawn0.step)⟩
        · rw [if_neg c8] at H
          have c8b0 : ((a0.size : Int) == 1) = false := beq_eq_false_iff_ne.mpr c8
          have c8b1 : ((a0.size : Int) != 1) = true := bne_iff_ne.mpr c8
          by_cases c9 : (a0.size : Int) > 1
          · rw [if_pos c9] at H
            have c9b0 : decide (1 < (a0.size : Int)) = true := decide_eq_true c9
            have c9b1 : decide (1 < a0.size) = true := decide_eq_true (by omega)
            clear c9
            by_cases c10 : 0 < (a0.size : Int)
            · rw [if_pos c10] at H
              have c10b0 : decide (0 < (a0.size : Int)) = true := decide_eq_true c10
              have c10b1 : decide (0 < a0.size) = true := decide_eq_true (by omega)
              clear c10
              obtain rfl := Option.some.inj H
              have p11 : 0 ≤ (0 : Int) := (by omega)
              have q11 : 0 < a0.size := (by have : (0 : Int) < (a0.size : Int) := of_decide_eq_true (by first | (with_reducible assumption) | assumption); omega)
              have hx11 : ∀ h : 0 < a0.size, ((a0[0]'h).toNat : Int) = bt a0 0 := bt_at a0 0
              clear p11
              have qi11 : (0 < (a0.size : Int)) = True := eq_true (of_decide_eq_true (by first | (with_reducible assumption) | assumption))
              replace q11 := eq_true q11
              go_wp2
              go_ret
              exact ⟨by first | rfl | (simp; done) | (simp [*]; done), by repeat (first | exact Drawn0.refl _ | apply Drawn0.step)⟩
            · rw [if_neg c10] at H
              exact absurd H (by simp)
          · rw [if_neg c9] at H
            have c9b0 : decide (1 < (a0.size : Int)) = false := decide_eq_false c9
            have c9b1 : decide (1 < a0.size) = false := decide_eq_false (by omega)
            clear c9
            obtain rfl := Option.some.inj H
            go_wp2
            go_ret
            exact ⟨by first | rfl | (simp; done) | (simp [*]; done), by repeat (first | exact Drawn0.refl _ | apply Drawn0.step)⟩

/-! ### customhouseref04_Is: function 15 -/
def customhouseref04_Is.f (k : Nat) (a0 : ByteArray) : Option (Bool) := if (a0.size : Int) ≤ 300 then ((customhouseref04_number.f k a0).bind fun t122 => (some t122)) else (some false)
theorem customhouseref04_Is.mono : ∀ a0 k, LeO (customhouseref04_Is.f k a0) (customhouseref04_Is.f (k + 1) a0) := by
  intro a0 k
  unfold customhouseref04_Is.f
  repeat' first
      | (with_reducible exact customhouseref04_number.mono _ _)
      | (with_reducible exact LeO.refl _)
      | (with_reducible exact LeO.none _)
      | (with_reducible refine LeO.ite ?_ ?_)
      | (with_reducible refine LeO.bind ?_ (fun _ => ?_))
      | exact customhouseref04_number.mono _ _
      | exact LeO.none _
      | refine LeO.ite ?_ ?_
      | refine LeO.bind ?_ (fun _ => ?_)
set_option maxHeartbeats 8000000 in
set_option maxRecDepth 100000 in
theorem customhouseref04_Is.calls (k : Nat) (a0 : ByteArray) (r : Bool) (w : World) (h : customhouseref04_Is.f k a0 = some r) :
    Calls Tryz.prog 15 #[.string a0] w fun e w' => e = .returned (.bool r) ∧ Drawn0 w w' := by
  have H : (if (a0.size : Int) ≤ 300 then ((customhouseref04_number.f k a0).bind fun t122 => (some t122)) else (some false)) = some r := h
  clear h
  by_cases c2 : (a0.size : Int) ≤ 300
  · rw [if_pos c2] at H
    have c2b0 : decide ((a0.size : Int) ≤ 300) = true := decide_eq_true c2
    have c2b1 : decide (a0.size ≤ 300) = true := decide_eq_true (by omega)
    clear c2
    replace H := Option.bind_eq_some_iff.mp H
    obtain ⟨t122, A30, H⟩ := H
    replace H : (some t122) = some r := H
    have A3 := Aside0.mk A30
    clear A30
    obtain rfl := Option.some.inj H
    go_enter Tryz.func15, Tryz.ntmps15
    go_wp2_with (first | (go_at_call 35; (with_reducible refine (customhouseref04_number.calls k a0 t122 _ A3.out).mono ?_); rintro e w' ⟨rfl, ⟨nd, rfl⟩⟩))
    go_ret
    exact ⟨by first | rfl | (simp; done) | (simp [*]; done), by repeat (first | exact Drawn0.refl _ | apply Drawn0.step)⟩
  · rw [if_neg c2] at H
    have c2b0 : decide ((a0.size : Int) ≤ 300) = false := decide_eq_false c2
    have c2b1 : decide (a0.size ≤ 300) = false := decide_eq_false (by omega)
    clear c2
    obtain rfl := Option.some.inj H
    go_enter Tryz.func15, Tryz.ntmps15
    go_wp2
    go_ret
    exact ⟨by first | rfl | (simp; done) | (simp [*]; done), by repeat (first | exact Drawn0.refl _ | apply Drawn0.step)⟩

/-! ### customhouseref04_Order: function 32 -/
def customhouseref04_Order.j0 : Nat → ByteArray → ByteArray → Bool → Option (Int)
  | 0, _, _, _ => none
  | k + 1, x0, x1, x21 => if x21 = true then (some (-1)) else (if x0.toList = x1.toList then (some 0) else (some 1))
def customhouseref04_Order.f (k : Nat) (a0 : ByteArray) (a1 : ByteArray) : Option (Int) := if (a0.size : Int) < (a1.size : Int) then (customhouseref04_Order.j0 k a0 a1 true) else (if (a0.size : Int) = (a1.size : Int) then (customhouseref04_Order.j0 k a0 a1 (Op.bytesLess a0.toList a1.toList)) else (customhouseref04_Order.j0 k a0 a1 false))
theorem customhouseref04_Order.mono_l : ∀ k, (∀ y0 y1 y2, LeO (customhouseref04_Order.j0 k y0 y1 y2) (customhouseref04_Order.j0 (k + 1) y0 y1 y2))
  | 0 => fun _ _ _ r h => by simp [customhouseref04_Order.j0] at h
  | k + 1 => by
    have ih0 := customhouseref04_Order.mono_l k
    · intro y0 y1 y2
      unfold customhouseref04_Order.j0
      repeat' first
      | (with_reducible exact ih0 _ _ _)
      | (with_reducible exact LeO.refl _)
      | (with_reducible exact LeO.none _)
      | (with_reducible refine LeO.ite ?_ ?_)
      | (with_reducible refine LeO.bind ?_ (fun _ => ?_))
      | exact ih0 _ _ _
      | exact LeO.none _
      | refine LeO.ite ?_ ?_
      | refine LeO.bind ?_ (fun _ => ?_)
theorem customhouseref04_Order.mono : ∀ a0 a1 k, LeO (customhouseref04_Order.f k a0 a1) (customhouseref04_Order.f (k + 1) a0 a1) := by
  intro a0 a1 k
  have ih0 := customhouseref04_Order.mono_l k
  unfold customhouseref04_Order.f
  repeat' first
      | (with_reducible exact ih0 _ _ _)
      | (with_reducible exact LeO.refl _)
      | (with_reducible exact LeO.none _)
      | (with_reducible refine LeO.ite ?_ ?_)
      | (with_reducible refine LeO.bind ?_ (fun _ => ?_))
      | exact ih0 _ _ _
      | exact LeO.none _
      | refine LeO.ite ?_ ?_
      | refine LeO.bind ?_ (fun _ => ?_)
set_option maxHeartbeats 8000000 in
set_option maxRecDepth 100000 in
theorem customhouseref04_Order.calls (k : Nat) (a0 : ByteArray) (a1 : ByteArray) (r : Int) (w : World) (h : customhouseref04_Order.f k a0 a1 = some r) :
    Calls Tryz.prog 32 #[.string a0, .string a1] w fun e w' => e = .returned (.int .i64 r) ∧ Drawn0 w w' := by
  have H : (if (a0.size : Int) < (a1.size : Int) then (customhouseref04_Order.j0 k a0 a1 true) else (if (a0.size : Int) = (a1.size : Int) then (customhouseref04_Order.j0 k a0 a1 (Op.bytesLess a0.toList a1.toList)) else (customhouseref04_Order.j0 k a0 a1 false))) = some r := h
  clear h
  have HC3 := Aside0.mk H
  clear H
  go_enter Tryz.func32, Tryz.ntmps32
  go_upto_region 1 with (fail)
  go_cut [21] (fun v21 wc => ∃ (kq : Nat) (x21_2 : Bool), v21 = .bool x21_2 ∧ Aside0 (customhouseref04_Order.j0 kq a0 a1 x21_2 = some r) ∧ Aside0 (kq ≤ k) ∧ Drawn0 w wc)
  case first =>
    have H := HC3.out
    clear HC3
    by_cases c4 : (a0.size : Int) < (a1.size : Int)
    · rw [if_pos c4] at H
      have c4b0 : decide ((a0.size : Int) < (a1.size : Int)) = true := decide_eq_true c4
      have c4b1 : decide (a0.size < a1.size) = true := decide_eq_true (Int.ofNat_lt.mp c4)
      clear c4
      (first | rw [c4b0] | (simp only [i64_w, i32_w]; rw [c4b0]) | skip)
      have H' := Aside0.mk H
      clear H
      go_wp2
      go_meet
      case rel => exact ⟨_, (true), (by first | rfl | (simp; done) | (simp [*]; done)), H', ⟨by first | omega | exact Nat.le_refl _⟩, by repeat (first | exact Drawn0.refl _ | apply Drawn0.step)⟩
    · rw [if_neg c4] at H
      have c4b0 : decide ((a0.size : Int) < (a1.size : Int)) = false := decide_eq_false c4
      have c4b1 : decide (a0.size < a1.size) = false := decide_eq_false (fun h => c4 (Int.ofNat_lt.mpr h))
      clear c4
      (first | rw [c4b0] | (simp only [i64_w, i32_w]; rw [c4b0]) | skip)
      by_cases c5 : (a0.size : Int) = (a1.size : Int)
      · rw [if_pos c5] at H
        have c5b0 : ((a0.size : Int) == (a1.size : Int)) = true := beq_iff_eq.mpr c5
        have c5b1 : ((a0.size : Int) != (a1.size : Int)) = false := bne_eq_false_iff_eq.mpr c5
        have c5b2 : (a0.size == a1.size) = true := by first | simpa using c5 | (simp at c5 ⊢; omega)
        clear c5
        have H' := Aside0.mk H
        clear H
        go_wp2
        go_meet
        case rel => exact ⟨_, ((Op.bytesLess a0.toList a1.toList)), (by first | rfl | (simp; done) | (simp [*]; done)), H', ⟨by first | omega | exact Nat.le_refl _⟩, by repeat (first | exact Drawn0.refl _ | apply Drawn0.step)⟩
      · rw [if_neg c5] at H
        have c5b0 : ((a0.size : Int) == (a1.size : Int)) = false := beq_eq_false_iff_ne.mpr c5
        have c5b1 : ((a0.size : Int) != (a1.size : Int)) = true := bne_iff_ne.mpr c5
        have c5b2 : (a0.size == a1.size) = false := by first | simpa using c5 | (simp at c5 ⊢; omega)
        have H' := Aside0.mk H
        clear H
        go_wp2
        go_meet
        case rel => exact ⟨_, (false), (by first | rfl | (simp; done) | (simp [*]; done)), H', ⟨by first | omega | exact Nat.le_refl _⟩, by repeat (first | exact Drawn0.refl _ | apply Drawn0.step)⟩
  case rest =>
    clear HC3
    try clear p2
    try clear c3
    try clear c4
    try clear c4b0
    try clear c4b1
    try clear c5
    try clear c5b0
    try clear c5b1
    try clear c5b2
    obtain ⟨kq, x21_2, rfl, HA, HJ2, ⟨mc2, rfl⟩⟩ := hcut
    cases kq with
    | zero => exact absurd HA.out (by simp [customhouseref04_Order.j0])
    | succ kj2 =>
      have H := HA.out
      clear HA
      simp only [customhouseref04_Order.j0] at H
      by_cases c6 : x21_2 = true
      · subst c6
        have H1 : (some (-1)) = some r := by rw [if_pos rfl] at H; exact H
        clear H
        have H := H1
        clear H1
        obtain rfl := Option.some.inj H
        go_wp2
        go_ret
        exact ⟨by first | rfl | (simp; done) | (simp [*]; done), by repeat (first | exact Drawn0.refl _ | apply Drawn0.step)⟩
      · replace c6 := Bool.eq_false_iff.mpr c6
        subst c6
        have H1 : (if a0.toList = a1.toList then (some 0) else (some 1)) = some r := by rw [if_neg (show ¬ (false = true) by decide)] at H; exact H
        clear H
        have H := H1
        clear H1
        by_cases c7 : a0.toList = a1.toList
        · rw [if_pos c7] at H
          have c7b0 : (a0.toList == a1.toList) = true := beq_iff_eq.mpr c7
          have c7b1 : (a0.toList != a1.toList) = false := bne_eq_false_iff_eq.mpr c7
          clear c7
          obtain rfl := Option.some.inj H
          go_wp2
          go_ret
          exact ⟨by first | rfl | (simp; done) | (simp [*]; done), by repeat (first | exact Drawn0.refl _ | apply Drawn0.step)⟩
        · rw [if_neg c7] at H
          have c7b0 : (a0.toList == a1.toList) = false := beq_eq_false_iff_ne.mpr c7
          have c7b1 : (a0.toList != a1.toList) = true := bne_iff_ne.mpr c7
          obtain rfl := Option.some.inj H
          go_wp2
          go_ret
          exact ⟨by first | rfl | (simp; done) | (simp [*]; done), by repeat (first | exact Drawn0.refl _ | apply Drawn0.step)⟩

/-! ### customhouseref04_Int: function 11 -/
def customhouseref04_Int.l0 : Nat → ByteArray → Int → Int → Option (Int × Int)
  | 0, _, _, _ => none
  | k + 1, x0, x4, x5 => if x5 < (x0.size : Int) then (if 0 ≤ x5 then (customhouseref04_Int.l0 k x0 (wrap64 ((wrap64 (x4 * 10)) + (((bt x0 x5) - 48) % 256))) (wrap64 (x5 + 1))) else (none)) else (some (x4, 0))
def customhouseref04_Int.f (k : Nat) (a0 : ByteArray) : Option (Int × Int) := (customhouseref04_Is.f k a0).bind fun t123 => (if t123 = true then ((customhouseref04_Order.f k a0 (⟨#[57, 50, 50, 51, 51, 55, 50, 48, 51, 54, 56, 53, 52, 55, 55, 53, 56, 48, 55]⟩ : ByteArray)).bind fun t124 => (if t124 > 0 then (some (0, 10)) else (customhouseref04_Int.l0 k a0 0 0))) else (some (0, 1)))
theorem customhouseref04_Int.mono_l : ∀ k, (∀ y0 y1 y2, LeO (customhouseref04_Int.l0 k y0 y1 y2) (customhouseref04_Int.l0 (k + 1) y0 y1 y2))
  | 0 => fun _ _ _ r h => by simp [customhouseref04_Int.l0] at h
  | k + 1 => by
    have ih0 := customhouseref04_Int.mono_l k
    · intro y0 y1 y2
      unfold customhouseref04_Int.l0
      repeat' first
      | (with_reducible exact ih0 _ _ _)
      | (with_reducible exact customhouseref04_Is.mono _ _)
      | (with_reducible exact customhouseref04_Order.mono _ _ _)
      | (with_reducible exact LeO.refl _)
      | (with_reducible exact LeO.none _)
      | (with_reducible refine LeO.ite ?_ ?_)
      | (with_reducible refine LeO.bind ?_ (fun _ => ?_))
      | exact ih0 _ _ _
      | exact customhouseref04_Is.mono _ _
      | exact customhouseref04_Order.mono _ _ _
      | exact LeO.none _
      | refine LeO.ite ?_ ?_
      | refine LeO.bind ?_ (fun _ => ?_)
theorem customhouseref04_Int.mono : ∀ a0 k, LeO (customhouseref04_Int.f k a0) (customhouseref04_Int.f (k + 1) a0) := by
  intro a0 k
  have ih0 := customhouseref04_Int.mono_l k
  unfold customhouseref04_Int.f
  repeat' first
      | (with_reducible exact ih0 _ _ _)
      | (with_reducible exact customhouseref04_Is.mono _ _)
      | (with_reducible exact customhouseref04_Order.mono _ _ _)
      | (with_reducible exact LeO.refl _)
      | (with_reducible exact LeO.none _)
      | (with_reducible refine LeO.ite ?_ ?_)
      | (with_reducible refine LeO.bind ?_ (fun _ => ?_))
      | exact ih0 _ _ _
      | exact customhouseref04_Is.mono _ _
      | exact customhouseref04_Order.mono _ _ _
      | exact LeO.none _
      | refine LeO.ite ?_ ?_
      | refine LeO.bind ?_ (fun _ => ?_)
set_option maxHeartbeats 8000000 in
set_option maxRecDepth 100000 in
theorem customhouseref04_Int.calls (k : Nat) (a0 : ByteArray) (r1 : Int) (r2 : Int) (w : World) (h : customhouseref04_Int.f k a0 = some (r1, r2)) :
    Calls Tryz.prog 11 #[.string a0] w fun e w' => e = .returned (.tuple #[.int .i64 r1, .int .i64 r2]) ∧ Drawn0 w w' := by
  have H : ((customhouseref04_Is.f k a0).bind fun t123 => (if t123 = true then ((customhouseref04_Order.f k a0 (⟨#[57, 50, 50, 51, 51, 55, 50, 48, 51, 54, 56, 53, 52, 55, 55, 53, 56, 48, 55]⟩ : ByteArray)).bind fun t124 => (if t124 > 0 then (some (0, 10)) else (customhouseref04_Int.l0 k a0 0 0))) else (some (0, 1)))) = some (r1, r2) := h
  clear h
  replace H := Option.bind_eq_some_iff.mp H
  obtain ⟨t123, A20, H⟩ := H
  replace H : (if t123 = true then ((customhouseref04_Order.f k a0 (⟨#[57, 50, 50, 51, 51, 55, 50, 48, 51, 54, 56, 53, 52, 55, 55, 53, 56, 48, 55]⟩ : ByteArray)).bind fun t124 => (if t124 > 0 then (some (0, 10)) else (customhouseref04_Int.l0 k a0 0 0))) else (some (0, 1))) = some (r1, r2) := H
  have A2 := Aside0.mk A20
  clear A20
  by_cases c3 : t123 = true
  · subst c3
    have H1 : ((customhouseref04_Order.f k a0 (⟨#[57, 50, 50, 51, 51, 55, 50, 48, 51, 54, 56, 53, 52, 55, 55, 53, 56, 48, 55]⟩ : ByteArray)).bind fun t124 => (if t124 > 0 then (some (0, 10)) else (customhouseref04_Int.l0 k a0 0 0))) = some (r1, r2) := by rw [if_pos rfl] at H; exact H
    clear H
    have H := H1
    clear H1
    replace H := Option.bind_eq_some_iff.mp H
    obtain ⟨t124, A40, H⟩ := H
    replace H : (if t124 > 0 then (some (0, 10)) else (customhouseref04_Int.l0 k a0 0 0)) = some (r1, r2) := H
    have A4 := Aside0.mk A40
    clear A40
    by_cases c5 : t124 > 0
    · rw [if_pos c5] at H
      have c5b0 : decide (0 < t124) = true := decide_eq_true c5
      clear c5
      simp only [Option.some.injEq, Prod.mk.injEq] at H
      obtain ⟨rfl, rfl⟩ := H
      go_enter Tryz.func11, Tryz.ntmps11
      go_wp2_with (first | ((with_reducible refine gate_callee (f := 15) rfl ?_); refine goesL_ (some 7) rfl rfl Tryz.func15 (by kernel_rfl) rfl #[.string a0] rfl (by (try simp only [List.map_toArray, List.map_cons, List.map_nil]); first | done | rfl | (simp only [List.length_drop, List.length_take]; rfl)) ?_; (with_reducible refine (customhouseref04_Is.calls k a0 true _ A2.out).mono ?_); rintro e w' ⟨rfl, ⟨nd, rfl⟩⟩; refine ⟨_, rfl, ?_⟩) | ((with_reducible refine gate_callee (f := 32) rfl ?_); refine goesL_ (some 10) rfl rfl Tryz.func32 (by kernel_rfl) rfl #[.string a0, .string (⟨#[57, 50, 50, 51, 51, 55, 50, 48, 51, 54, 56, 53, 52, 55, 55, 53, 56, 48, 55]⟩ : ByteArray)] rfl (by (try simp only [List.map_toArray, List.map_cons, List.map_nil]); first | done | rfl | (simp only [List.length_drop, List.length_take]; rfl)) ?_; (with_reducible refine (customhouseref04_Order.calls k a0 (⟨#[57, 50, 50, 51, 51, 55, 50, 48, 51, 54, 56, 53, 52, 55, 55, 53, 56, 48, 55]⟩ : ByteArray) t124 _ A4.out).mono ?_); rintro e w' ⟨rfl, ⟨nd, rfl⟩⟩; refine ⟨_, rfl, ?_⟩))
      go_ret2
      exact ⟨by first | rfl | (simp; done) | (simp [*]; done), by repeat (first | exact Drawn0.refl _ | apply Drawn0.step)⟩
    · rw [if_neg c5] at H
      have c5b0 : decide (0 < t124) = false := decide_eq_false c5
      clear c5
      have H' := Aside0.mk H
      clear H
      go_enter Tryz.func11, Tryz.ntmps11
      go_wp2_with (first | ((with_reducible refine gate_callee (f := 15) rfl ?_); refine goesL_ (some 7) rfl rfl Tryz.func15 (by kernel_rfl) rfl #[.string a0] rfl (by (try simp only [List.map_toArray, List.map_cons, List.map_nil]); first | done | rfl | (simp only [List.length_drop, List.length_take]; rfl)) ?_; (with_reducible refine (customhouseref04_Is.calls k a0 true _ A2.out).mono ?_); rintro e w' ⟨rfl, ⟨nd, rfl⟩⟩; refine ⟨_, rfl, ?_⟩) | ((with_reducible refine gate_callee (f := 32) rfl ?_); refine goesL_ (some 10) rfl rfl Tryz.func32 (by kernel_rfl) rfl #[.string a0, .string (⟨#[57, 50, 50, 51, 51, 55, 50, 48, 51, 54, 56, 53, 52, 55, 55, 53, 56, 48, 55]⟩ : ByteArray)] rfl (by (try simp only [List.map_toArray, List.map_cons, List.map_nil]); first | done | rfl | (simp only [List.length_drop, List.length_take]; rfl)) ?_; (with_reducible refine (customhouseref04_Order.calls k a0 (⟨#[57, 50, 50, 51, 51, 55, 50, 48, 51, 54, 56, 53, 52, 55, 55, 53, 56, 48, 55]⟩ : ByteArray) t124 _ A4.out).mono ?_); rintro e w' ⟨rfl, ⟨nd, rfl⟩⟩; refine ⟨_, rfl, ?_⟩))
      go_loopg [4, 5] k (fun kq v4 v5 w' => ∃ (x4_1 : Int) (x5_1 : Int), v4 = .int .i64 x4_1 ∧ v5 = .int .i64 x5_1 ∧ Aside0 (customhouseref04_Int.l0 kq a0 x4_1 x5_1 = some (r1, r2)) ∧ Aside0 (kq ≤ k) ∧ Drawn0 w w')
      case atStart => exact ⟨(0), (0), (by first | rfl | (simp; done) | (simp [*]; done)), (by first | rfl | (simp; done) | (simp [*]; done)), H', ⟨Nat.le_refl _⟩, by repeat (first | exact Drawn0.refl _ | apply Drawn0.step)⟩
      case round =>
        clear H'
        try clear c1
        try clear p2
        try clear c3
        try clear c5
        try clear c5b0
        obtain ⟨x4_1, x5_1, rfl, rfl, HA, HK1, ⟨m1, rfl⟩⟩ := hrel
        cases gk with
        | zero => exact absurd HA.out (by simp [customhouseref04_Int.l0])
        | succ k1 =>
          have H := HA.out
          clear HA
          simp only [customhouseref04_Int.l0] at H
          by_cases c6 : x5_1 < (a0.size : Int)
          · rw [if_pos c6] at H
            have c6b0 : decide (x5_1 < (a0.size : Int)) = true := decide_eq_true c6
            clear c6
            by_cases c7 : 0 ≤ x5_1
            · rw [if_pos c7] at H
              have c7b0 : decide (0 ≤ x5_1) = true := decide_eq_true c7
              clear c7
              have H' := Aside0.mk H
              clear H
              have p8 : 0 ≤ (x5_1 : Int) := of_decide_eq_true (by first | (with_reducible assumption) | assumption)
              have q8 : x5_1 < (a0.size : Int) := of_decide_eq_true (by first | (with_reducible assumption) | assumption)
              have hx8 := bt_at a0 x5_1
              replace p8 := eq_true p8
              replace q8 := eq_true q8
              go_wp2
              go_roundg k1
              case measure => have := HK1.out; omega
              case rel => exact ⟨(wrap64 ((wrap64 (x4_1 * 10)) + (((bt a0 x5_1) - 48) % 256))), (wrap64 (x5_1 + 1)), (by first | rfl | (simp; done) | (simp [*]; done)), (by first | rfl | (simp; done) | (simp [*]; done)), H', ⟨by have := HK1.out; omega⟩, by repeat (first | exact Drawn0.refl _ | apply Drawn0.step)⟩
            · rw [if_neg c7] at H
              exact absurd H (by simp)
          · rw [if_neg c6] at H
            have c6b0 : decide (x5_1 < (a0.size : Int)) = false := decide_eq_false c6
            clear c6
            simp only [Option.some.injEq, Prod.mk.injEq] at H
            obtain ⟨rfl, rfl⟩ := H
            go_wp2
            go_ret2
            exact ⟨by first | rfl | (simp; done) | (simp [*]; done), by repeat (first | exact Drawn0.refl _ | apply Drawn0.step)⟩
  · replace c3 := Bool.eq_false_iff.mpr c3
    subst c3
    have H1 : (some (0, 1)) = some (r1, r2) := by rw [if_neg (show ¬ (false = true) by decide)] at H; exact H
    clear H
    have H := H1
    clear H1
    simp only [Option.some.injEq, Prod.mk.injEq] at H
    obtain ⟨rfl, rfl⟩ := H
    go_enter Tryz.func11, Tryz.ntmps11
    go_wp2_with (first | ((with_reducible refine gate_callee (f := 15) rfl ?_); refine goesL_ (some 7) rfl rfl Tryz.func15 (by kernel_rfl) rfl #[.string a0] rfl (by (try simp only [List.map_toArray, List.map_cons, List.map_nil]); first | done | rfl | (simp only [List.length_drop, List.length_take]; rfl)) ?_; (with_reducible refine (customhouseref04_Is.calls k a0 false _ A2.out).mono ?_); rintro e w' ⟨rfl, ⟨nd, rfl⟩⟩; refine ⟨_, rfl, ?_⟩))
    go_ret2
    exact ⟨by first | rfl | (simp; done) | (simp [*]; done), by repeat (first | exact Drawn0.refl _ | apply Drawn0.step)⟩

end Go.Proofs.YtdojfnjgipeogaaGreatDoor.Lb
