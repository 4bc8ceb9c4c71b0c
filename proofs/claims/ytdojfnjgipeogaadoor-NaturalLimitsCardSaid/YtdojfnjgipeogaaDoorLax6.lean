-- PRINTED by print.py (a twelfth state) out of the translation. Not trusted: Lean checks it.
import Derived.Test.YtdojfnjgipeogaaDoorLax0
import Derived.Test.YtdojfnjgipeogaaDoorLax1
import Derived.Test.YtdojfnjgipeogaaDoorLax5
namespace Go.Proofs.YtdojfnjgipeogaaDoor.La
open Go.RowKit Go.Proofs.YtdojfnjgipeogaaDoorW.PrintWords Go.Proofs.YtdojfnjgipeogaaDoorW.PrintLast Go.Proofs.YtdojfnjgipeogaaDoorW.PrintMore
attribute [local go_sem] max2_int min2_int max_two min_two max_three min_three max_four min_four   -- for this text's walks alone
set_option linter.unusedVariables false
set_option linter.unusedSimpArgs false

/-! ### customhouselaw04_NaturalLimits: function 9 -/
mutual
def customhouselaw04_NaturalLimits.j0 : Nat → Bool → Int → Int → ByteArray → ByteArray → Bool → Option (Bool)
  | 0, _, _, _, _, _, _ => none
  | k + 1, x5, x6, x7, x8, x9, x37 => if x37 = true then (some x5) else ((natural_Mul.f x8 x9).bind fun bt245 => (if (wrap64 (x6 + x7)) ≥ 300 then (if bt245.2 = 2 then (if bt245.1.toList = ([] : List UInt8) then (if (wrap64 (x6 + x7)) < 300 then (if bt245.2 = 0 then ((customhouselaw04_zeros.f k (wrap64 (x6 + x7))).bind fun t247 => (customhouselaw04_NaturalLimits.j1 k x5 x6 x8 (bt245.1.toList != t247.toList))) else (customhouselaw04_NaturalLimits.j1 k x5 x6 x8 true)) else (customhouselaw04_NaturalLimits.j1 k x5 x6 x8 false)) else (customhouselaw04_NaturalLimits.j1 k x5 x6 x8 true)) else (customhouselaw04_NaturalLimits.j1 k x5 x6 x8 true)) else (if (wrap64 (x6 + x7)) < 300 then (if bt245.2 = 0 then ((customhouselaw04_zeros.f k (wrap64 (x6 + x7))).bind fun t248 => (customhouselaw04_NaturalLimits.j1 k x5 x6 x8 (bt245.1.toList != t248.toList))) else (customhouselaw04_NaturalLimits.j1 k x5 x6 x8 true)) else (customhouselaw04_NaturalLimits.j1 k x5 x6 x8 false))))
def customhouselaw04_NaturalLimits.j1 : Nat → Bool → Int → ByteArray → Bool → Option (Bool)
  | 0, _, _, _, _ => none
  | k + 1, x5, x6, x8, x74 => if x74 = true then (some false) else ((natural_Sub.f x8 (⟨#[49]⟩ : ByteArray)).bind fun bt249 => ((natural_Add.f bt249.1 (⟨#[49]⟩ : ByteArray)).bind fun bt251 => (if x5 = true then (if bt249.2 = 0 then (if bt251.2 = 0 then (if bt251.1.toList = x8.toList then (some ((bt249.1.size : Int) == (mx 1 x6))) else (some false)) else (some false)) else (some false)) else (some false))))
end
def customhouselaw04_NaturalLimits.f (k : Nat) (a0 : Int) (a1 : Int) : Option (Bool) := (customhouselaw04_head.f k).bind fun t241 => ((customhouselaw04_zeros.f k (Int.tmod (wrap64 (a0)) 321)).bind fun t242 => ((customhouselaw04_zeros.f k (Int.tmod (wrap64 (a1)) 321)).bind fun t243 => ((natural_Is.f t242).bind fun t244 => (if (t244 != (decide ((Int.tmod (wrap64 (a0)) 321) < 300))) = true then (some false) else (if (Int.tmod (wrap64 (a0)) 321) ≥ 300 then (customhouselaw04_NaturalLimits.j0 k t241 (Int.tmod (wrap64 (a0)) 321) (Int.tmod (wrap64 (a1)) 321) t242 t243 true) else (customhouselaw04_NaturalLimits.j0 k t241 (Int.tmod (wrap64 (a0)) 321) (Int.tmod (wrap64 (a1)) 321) t242 t243 (decide ((Int.tmod (wrap64 (a1)) 321) ≥ 300))))))))
theorem customhouselaw04_NaturalLimits.mono_l : ∀ k, (∀ y0 y1 y2 y3 y4 y5, LeO (customhouselaw04_NaturalLimits.j0 k y0 y1 y2 y3 y4 y5) (customhouselaw04_NaturalLimits.j0 (k + 1) y0 y1 y2 y3 y4 y5)) ∧ (∀ y0 y1 y2 y3, LeO (customhouselaw04_NaturalLimits.j1 k y0 y1 y2 y3) (customhouselaw04_NaturalLimits.j1 (k + 1) y0 y1 y2 y3))
  | 0 => ⟨fun _ _ _ _ _ _ r h => by simp [customhouselaw04_NaturalLimits.j0] at h, fun _ _ _ _ r h => by simp [customhouselaw04_NaturalLimits.j1] at h⟩
  | k + 1 => by
    obtain ⟨ih0, ih1⟩ := customhouselaw04_NaturalLimits.mono_l k
    refine ⟨?_, ?_⟩
    · intro y0 y1 y2 y3 y4 y5
      unfold customhouselaw04_NaturalLimits.j0
      repeat' first
      | (with_reducible exact ih0 _ _ _ _ _ _)
      | (with_reducible exact ih1 _ _ _ _)
      | (with_reducible exact customhouselaw04_head.mono _)
      | (with_reducible exact customhouselaw04_zeros.mono _ _)
      | (with_reducible exact LeO.refl _)
      | (with_reducible exact LeO.none _)
      | (with_reducible refine LeO.ite ?_ ?_)
      | (with_reducible refine LeO.bind ?_ (fun _ => ?_))
      | exact ih0 _ _ _ _ _ _
      | exact ih1 _ _ _ _
      | exact customhouselaw04_head.mono _
      | exact customhouselaw04_zeros.mono _ _
      | exact LeO.none _
      | refine LeO.ite ?_ ?_
      | refine LeO.bind ?_ (fun _ => ?_)
    · intro y0 y1 y2 y3
      unfold customhouselaw04_NaturalLimits.j1
      repeat' first
      | (with_reducible exact ih0 _ _ _ _ _ _)
      | (with_reducible exact ih1 _ _ _ _)
      | (with_reducible exact customhouselaw04_head.mono _)
      | (with_reducible exact customhouselaw04_zeros.mono _ _)
      | (with_reducible exact LeO.refl _)
      | (with_reducible exact LeO.none _)
      | (with_reducible refine LeO.ite ?_ ?_)
      | (with_reducible refine LeO.bind ?_ (fun _ => ?_))
      | exact ih0 _ _ _ _ _ _
      | exact ih1 _ _ _ _
      | exact customhouselaw04_head.mono _
      | exact customhouselaw04_zeros.mono _ _
      | exact LeO.none _
      | refine LeO.ite ?_ ?_
      | refine LeO.bind ?_ (fun _ => ?_)
theorem customhouselaw04_NaturalLimits.mono : ∀ a0 a1 k, LeO (customhouselaw04_NaturalLimits.f k a0 a1) (customhouselaw04_NaturalLimits.f (k + 1) a0 a1) := by
  intro a0 a1 k
  obtain ⟨ih0, ih1⟩ := customhouselaw04_NaturalLimits.mono_l k
  unfold customhouselaw04_NaturalLimits.f
  repeat' first
      | (with_reducible exact ih0 _ _ _ _ _ _)
      | (with_reducible exact ih1 _ _ _ _)
      | (with_reducible exact customhouselaw04_head.mono _)
      | (with_reducible exact customhouselaw04_zeros.mono _ _)
      | (with_reducible exact LeO.refl _)
      | (with_reducible exact LeO.none _)
      | (with_reducible refine LeO.ite ?_ ?_)
      | (with_reducible refine LeO.bind ?_ (fun _ => ?_))
      | exact ih0 _ _ _ _ _ _
      | exact ih1 _ _ _ _
      | exact customhouselaw04_head.mono _
      | exact customhouselaw04_zeros.mono _ _
      | exact LeO.none _
      | refine LeO.ite ?_ ?_
      | refine LeO.bind ?_ (fun _ => ?_)
set_option maxHeartbeats 8000000 in
set_option maxRecDepth 100000 in
theorem customhouselaw04_NaturalLimits.calls (k : Nat) (a0 : Int) (a1 : Int) (r : Bool) (w : World) (h : customhouselaw04_NaturalLimits.f k a0 a1 = some r) (hG : GOK w) :
    Calls Tryd.prog 9 #[.int .u16 a0, .int .u16 a1] w fun e w' => e = .returned (.bool r) ∧ Below w.heap.size w w' := by
  have HB := Aside0.mk (Below.refl w.heap.size w)
  have H : ((customhouselaw04_head.f k).bind fun t241 => ((customhouselaw04_zeros.f k (Int.tmod (wrap64 (a0)) 321)).bind fun t242 => ((customhouselaw04_zeros.f k (Int.tmod (wrap64 (a1)) 321)).bind fun t243 => ((natural_Is.f t242).bind fun t244 => (if (t244 != (decide ((Int.tmod (wrap64 (a0)) 321) < 300))) = true then (some false) else (if (Int.tmod (wrap64 (a0)) 321) ≥ 300 then (customhouselaw04_NaturalLimits.j0 k t241 (Int.tmod (wrap64 (a0)) 321) (Int.tmod (wrap64 (a1)) 321) t242 t243 true) else (customhouselaw04_NaturalLimits.j0 k t241 (Int.tmod (wrap64 (a0)) 321) (Int.tmod (wrap64 (a1)) 321) t242 t243 (decide ((Int.tmod (wrap64 (a1)) 321) ≥ 300))))))))) = some r := h
  clear h
  have HG := Aside0.mk hG
  clear hG
  replace H := Option.bind_eq_some_iff.mp H
  obtain ⟨t241, A30, H⟩ := H
  replace H : ((customhouselaw04_zeros.f k (Int.tmod (wrap64 (a0)) 321)).bind fun t242 => ((customhouselaw04_zeros.f k (Int.tmod (wrap64 (a1)) 321)).bind fun t243 => ((natural_Is.f t242).bind fun t244 => (if (t244 != (decide ((Int.tmod (wrap64 (a0)) 321) < 300))) = true then (some false) else (if (Int.tmod (wrap64 (a0)) 321) ≥ 300 then (customhouselaw04_NaturalLimits.j0 k t241 (Int.tmod (wrap64 (a0)) 321) (Int.tmod (wrap64 (a1)) 321) t242 t243 true) else (customhouselaw04_NaturalLimits.j0 k t241 (Int.tmod (wrap64 (a0)) 321) (Int.tmod (wrap64 (a1)) 321) t242 t243 (decide ((Int.tmod (wrap64 (a1)) 321) ≥ 300)))))))) = some r := H
  have A3 := Aside0.mk A30
  clear A30
  replace H := Option.bind_eq_some_iff.mp H
  obtain ⟨t242, A40, H⟩ := H
  replace H : ((customhouselaw04_zeros.f k (Int.tmod (wrap64 (a1)) 321)).bind fun t243 => ((natural_Is.f t242).bind fun t244 => (if (t244 != (decide ((Int.tmod (wrap64 (a0)) 321) < 300))) = true then (some false) else (if (Int.tmod (wrap64 (a0)) 321) ≥ 300 then (customhouselaw04_NaturalLimits.j0 k t241 (Int.tmod (wrap64 (a0)) 321) (Int.tmod (wrap64 (a1)) 321) t242 t243 true) else (customhouselaw04_NaturalLimits.j0 k t241 (Int.tmod (wrap64 (a0)) 321) (Int.tmod (wrap64 (a1)) 321) t242 t243 (decide ((Int.tmod (wrap64 (a1)) 321) ≥ 300))))))) = some r := H
  have A4 := Aside0.mk A40
  clear A40
  replace H := Option.bind_eq_some_iff.mp H
  obtain ⟨t243, A50, H⟩ := H
  replace H : ((natural_Is.f t242).bind fun t244 => (if (t244 != (decide ((Int.tmod (wrap64 (a0)) 321) < 300))) = true then (some false) else (if (Int.tmod (wrap64 (a0)) 321) ≥ 300 then (customhouselaw04_NaturalLimits.j0 k t241 (Int.tmod (wrap64 (a0)) 321) (Int.tmod (wrap64 (a1)) 321) t242 t243 true) else (customhouselaw04_NaturalLimits.j0 k t241 (Int.tmod (wrap64 (a0)) 321) (Int.tmod (wrap64 (a1)) 321) t242 t243 (decide ((Int.tmod (wrap64 (a1)) 321) ≥ 300)))))) = some r := H
  have A5 := Aside0.mk A50
  clear A50
  replace H := Option.bind_eq_some_iff.mp H
  obtain ⟨t244, A60, H⟩ := H
  replace H : (if (t244 != (decide ((Int.tmod (wrap64 (a0)) 321) < 300))) = true then (some false) else (if (Int.tmod (wrap64 (a0)) 321) ≥ 300 then (customhouselaw04_NaturalLimits.j0 k t241 (Int.tmod (wrap64 (a0)) 321) (Int.tmod (wrap64 (a1)) 321) t242 t243 true) else (customhouselaw04_NaturalLimits.j0 k t241 (Int.tmod (wrap64 (a0)) 321) (Int.tmod (wrap64 (a1)) 321) t242 t243 (decide ((Int.tmod (wrap64 (a1)) 321) ≥ 300))))) = some r := H
  have A6 := Aside0.mk A60
  clear A60
  by_cases c7 : (t244 != (decide ((Int.tmod (wrap64 (a0)) 321) < 300))) = true
  · rw [if_pos c7] at H
    have c7b0 : (t244 != (decide ((Int.tmod (wrap64 (a0)) 321) < 300))) = true := c7
    (try (have c7b1 : decide (t244 = (decide ((Int.tmod (wrap64 (a0)) 321) < 300))) = false := by simpa using c7))
    (try (have c7b2 : (t244 == (decide ((Int.tmod (wrap64 (a0)) 321) < 300))) = false := by simpa using c7))
    (try (have c7b3 : ¬ (t244 = (decide ((Int.tmod (wrap64 (a0)) 321) < 300))) := by simpa using c7))
    clear c7
    obtain rfl := Option.some.inj H
    go_enter Tryd.func9, Tryd.ntmps9
    go_wp2_with (first | ((with_reducible refine gate_callee (f := 11) rfl ?_); refine goesL_ (some 16) rfl rfl Tryd.func11 (by kernel_rfl) rfl #[] rfl (by (try simp only [List.map_toArray, List.map_cons, List.map_nil]); first | done | rfl | (simp only [List.length_drop, List.length_take]; rfl)) ?_; (with_reducible refine (customhouselaw04_head.calls k  t241 _ A3.out ?side1).mono ?_); (case side1 => exact GOK.below HG.out (by repeat (first | (with_reducible first | exact HB.out | apply below_alloc | apply pw_below_drewN | apply below_drew1) | exact HB.out))); rintro e w8 ⟨rfl, hb⟩; refine ⟨_, rfl, ?_⟩; have n0_ := Aside0.mk (below_step (by repeat (first | (with_reducible first | exact HB.out | apply below_alloc | apply pw_below_drewN | apply below_drew1) | exact HB.out)) hb); clear HB; have HB := n0_; clear n0_; (try clear hb); (try clear hb2); (try clear hk); (try clear hi)) | ((with_reducible refine gate_callee (f := 21) rfl ?_); refine goesL_ (some 24) rfl rfl Tryd.func21 (by kernel_rfl) rfl #[.int .i64 (Int.tmod (wrap64 (a0)) 321)] rfl (by (try simp only [List.map_toArray, List.map_cons, List.map_nil]); first | done | rfl | (simp only [List.length_drop, List.length_take]; rfl)) ?_; (with_reducible refine (customhouselaw04_zeros.calls k (Int.tmod (wrap64 (a0)) 321) t242 _ A4.out).mono ?_); rintro e w9 ⟨rfl, hb⟩; refine ⟨_, rfl, ?_⟩; have n0_ := Aside0.mk (below_step (by repeat (first | (with_reducible first | exact HB.out | apply below_alloc | apply pw_below_drewN | apply below_drew1) | exact HB.out)) hb); clear HB; have HB := n0_; clear n0_; (try clear hb); (try clear hb2); (try clear hk); (try clear hi)) | ((with_reducible refine gate_callee (f := 21) rfl ?_); refine goesL_ (some 26) rfl rfl Tryd.func21 (by kernel_rfl) rfl #[.int .i64 (Int.tmod (wrap64 (a1)) 321)] rfl (by (try simp only [List.map_toArray, List.map_cons, List.map_nil]); first | done | rfl | (simp only [List.length_drop, List.length_take]; rfl)) ?_; (with_reducible refine (customhouselaw04_zeros.calls k (Int.tmod (wrap64 (a1)) 321) t243 _ A5.out).mono ?_); rintro e w10 ⟨rfl, hb⟩; refine ⟨_, rfl, ?_⟩; have n0_ := Aside0.mk (below_step (by repeat (first | (with_reducible first | exact HB.out | apply below_alloc | apply pw_below_drewN | apply below_drew1) | exact HB.out)) hb); clear HB; have HB := n0_; clear n0_; (try clear hb); (try clear hb2); (try clear hk); (try clear hi)) | ((with_reducible refine gate_callee (f := 14) rfl ?_); refine goesL_ (some 28) rfl rfl Tryd.func14 (by kernel_rfl) rfl #[.string t242] rfl (by (try simp only [List.map_toArray, List.map_cons, List.map_nil]); first | done | rfl | (simp only [List.length_drop, List.length_take]; rfl)) ?_; (with_reducible refine (natural_Is.calls t242 t244 _ A6.out).mono ?_); rintro e w11 ⟨rfl, hb⟩; refine ⟨_, rfl, ?_⟩; have n0_ := Aside0.mk (below_step (by repeat (first | (with_reducible first | exact HB.out | apply below_alloc | apply pw_below_drewN | apply below_drew1) | exact HB.out)) hb); clear HB; have HB := n0_; clear n0_; (try clear hb); (try clear hb2); (try clear hk); (try clear hi)))
    go_ret
    exact ⟨by first | rfl | (simp [errW_none, errW_some] <;> rfl) | (simp [*, errW_none, errW_some] <;> rfl), by repeat (first | (with_reducible first | exact HB.out | apply below_alloc | apply pw_below_drewN | apply below_drew1) | exact HB.out)⟩
  · rw [if_neg c7] at H
    have c7b0 : (t244 != (decide ((Int.tmod (wrap64 (a0)) 321) < 300))) = false := by simpa using c7
    (try (have c7b1 : decide (t244 = (decide ((Int.tmod (wrap64 (a0)) 321) < 300))) = true := by simpa using c7))
    (try (have c7b2 : (t244 == (decide ((Int.tmod (wrap64 (a0)) 321) < 300))) = true := by simpa using c7))
    clear c7
    have HC12 := Aside0.mk H
    clear H
    go_enter Tryd.func9, Tryd.ntmps9
    go_upto_region 8 with (first | ((with_reducible refine gate_callee (f := 11) rfl ?_); refine goesL_ (some 16) rfl rfl Tryd.func11 (by kernel_rfl) rfl #[] rfl (by (try simp only [List.map_toArray, List.map_cons, List.map_nil]); first | done | rfl | (simp only [List.length_drop, List.length_take]; rfl)) ?_; (with_reducible refine (customhouselaw04_head.calls k  t241 _ A3.out ?side1).mono ?_); (case side1 => exact GOK.below HG.out (by repeat (first | (with_reducible first | exact HB.out | apply below_alloc | apply pw_below_drewN | apply below_drew1) | exact HB.out))); rintro e w13 ⟨rfl, hb⟩; refine ⟨_, rfl, ?_⟩; have n0_ := Aside0.mk (below_step (by repeat (first | (with_reducible first | exact HB.out | apply below_alloc | apply pw_below_drewN | apply below_drew1) | exact HB.out)) hb); clear HB; have HB := n0_; clear n0_; (try clear hb); (try clear hb2); (try clear hk); (try clear hi)) | ((with_reducible refine gate_callee (f := 21) rfl ?_); refine goesL_ (some 24) rfl rfl Tryd.func21 (by kernel_rfl) rfl #[.int .i64 (Int.tmod (wrap64 (a0)) 321)] rfl (by (try simp only [List.map_toArray, List.map_cons, List.map_nil]); first | done | rfl | (simp only [List.length_drop, List.length_take]; rfl)) ?_; (with_reducible refine (customhouselaw04_zeros.calls k (Int.tmod (wrap64 (a0)) 321) t242 _ A4.out).mono ?_); rintro e w14 ⟨rfl, hb⟩; refine ⟨_, rfl, ?_⟩; have n0_ := Aside0.mk (below_step (by repeat (first | (with_reducible first | exact HB.out | apply below_alloc | apply pw_below_drewN | apply below_drew1) | exact HB.out)) hb); clear HB; have HB := n0_; clear n0_; (try clear hb); (try clear hb2); (try clear hk); (try clear hi)) | ((with_reducible refine gate_callee (f := 21) rfl ?_); refine goesL_ (some 26) rfl rfl Tryd.func21 (by kernel_rfl) rfl #[.int .i64 (Int.tmod (wrap64 (a1)) 321)] rfl (by (try simp only [List.map_toArray, List.map_cons, List.map_nil]); first | done | rfl | (simp only [List.length_drop, List.length_take]; rfl)) ?_; (with_reducible refine (customhouselaw04_zeros.calls k (Int.tmod (wrap64 (a1)) 321) t243 _ A5.out).mono ?_); rintro e w15 ⟨rfl, hb⟩; refine ⟨_, rfl, ?_⟩; have n0_ := Aside0.mk (below_step (by repeat (first | (with_reducible first | exact HB.out | apply below_alloc | apply pw_below_drewN | apply below_drew1) | exact HB.out)) hb); clear HB; have HB := n0_; clear n0_; (try clear hb); (try clear hb2); (try clear hk); (try clear hi)) | ((with_reducible refine gate_callee (f := 14) rfl ?_); refine goesL_ (some 28) rfl rfl Tryd.func14 (by kernel_rfl) rfl #[.string t242] rfl (by (try simp only [List.map_toArray, List.map_cons, List.map_nil]); first | done | rfl | (simp only [List.length_drop, List.length_take]; rfl)) ?_; (with_reducible refine (natural_Is.calls t242 t244 _ A6.out).mono ?_); rintro e w16 ⟨rfl, hb⟩; refine ⟨_, rfl, ?_⟩; have n0_ := Aside0.mk (below_step (by repeat (first | (with_reducible first | exact HB.out | apply below_alloc | apply pw_below_drewN | apply below_drew1) | exact HB.out)) hb); clear HB; have HB := n0_; clear n0_; (try clear hb); (try clear hb2); (try clear hk); (try clear hi)))
    (try simp only [Act.put, List.setIfInBounds_toArray, List.set_cons_zero, List.set_cons_succ])
    go_cut [37] (fun v37 wc => ∃ (kq : Nat) (x37_11 : Bool), v37 = .bool x37_11 ∧ Aside0 (customhouselaw04_NaturalLimits.j0 kq t241 (Int.tmod (wrap64 (a0)) 321) (Int.tmod (wrap64 (a1)) 321) t242 t243 x37_11 = some r) ∧ Aside0 (kq ≤ k) ∧ Aside0 (Below w.heap.size w wc))
    case first =>
      have H := HC12.out
      clear HC12
      by_cases c17 : (Int.tmod (wrap64 (a0)) 321) ≥ 300
      · rw [if_pos c17] at H
        have c17b0 : decide (300 ≤ (Int.tmod (wrap64 (a0)) 321)) = true := decide_eq_true c17
        clear c17
        (first | rw [c17b0] | (simp only [i64_w, i32_w]; rw [c17b0]) | skip)
        have H' := Aside0.mk H
        clear H
        go_wp2
        go_meet
        case rel => exact ⟨_, (true), (by first | rfl | (simp; done) | (simp [*]; done)), H', ⟨by first | omega | exact Nat.le_refl _⟩, ⟨by repeat (first | (with_reducible first | exact HB.out | apply below_alloc | apply pw_below_drewN | apply below_drew1) | exact HB.out)⟩⟩
      · rw [if_neg c17] at H
        have c17b0 : decide (300 ≤ (Int.tmod (wrap64 (a0)) 321)) = false := decide_eq_false c17
        clear c17
        (first | rw [c17b0] | (simp only [i64_w, i32_w]; rw [c17b0]) | skip)
        have H' := Aside0.mk H
        clear H
        go_wp2
        go_meet
        case rel => exact ⟨_, (decide ((Int.tmod (wrap64 (a1)) 321) ≥ 300)), (by first | rfl | (simp; done) | (simp [*]; done)), H', ⟨by first | omega | exact Nat.le_refl _⟩, ⟨by repeat (first | (with_reducible first | exact HB.out | apply below_alloc | apply pw_below_drewN | apply below_drew1) | exact HB.out)⟩⟩
    case rest =>
      clear HC12
      try clear c1
      try clear c2
      try clear p2
      try clear p6
      try clear c7
      try clear c7b0
      try clear c7b1
      try clear c7b2
      try clear c9
      try clear c11
      try clear c14
      try clear c17
      try clear c17b0
      obtain ⟨kq, x37_11, rfl, HA, HJ11, HB⟩ := hcut
      cases kq with
      | zero => exact absurd HA.out (by simp [customhouselaw04_NaturalLimits.j0])
      | succ kj11 =>
        have H := HA.out
        clear HA
        simp only [customhouselaw04_NaturalLimits.j0] at H
        by_cases c18 : x37_11 = true
        · subst c18
          have H1 : (some t241) = some r := by rw [if_pos rfl] at H; exact H
          clear H
          have H := H1
          clear H1
          obtain rfl := Option.some.inj H
          go_wp2
          go_ret
          exact ⟨by first | rfl | (simp [errW_none, errW_some] <;> rfl) | (simp [*, errW_none, errW_some] <;> rfl), by repeat (first | (with_reducible first | exact HB.out | apply below_alloc | apply pw_below_drewN | apply below_drew1) | exact HB.out)⟩
        · replace c18 := Bool.eq_false_iff.mpr c18
          subst c18
          have H1 : ((natural_Mul.f t242 t243).bind fun bt245 => (if (wrap64 ((Int.tmod (wrap64 (a0)) 321) + (Int.tmod (wrap64 (a1)) 321))) ≥ 300 then (if bt245.2 = 2 then (if bt245.1.toList = ([] : List UInt8) then (if (wrap64 ((Int.tmod (wrap64 (a0)) 321) + (Int.tmod (wrap64 (a1)) 321))) < 300 then (if bt245.2 = 0 then ((customhouselaw04_zeros.f kj11 (wrap64 ((Int.tmod (wrap64 (a0)) 321) + (Int.tmod (wrap64 (a1)) 321)))).bind fun t247 => (customhouselaw04_NaturalLimits.j1 kj11 t241 (Int.tmod (wrap64 (a0)) 321) t242 (bt245.1.toList != t247.toList))) else (customhouselaw04_NaturalLimits.j1 kj11 t241 (Int.tmod (wrap64 (a0)) 321) t242 true)) else (customhouselaw04_NaturalLimits.j1 kj11 t241 (Int.tmod (wrap64 (a0)) 321) t242 false)) else (customhouselaw04_NaturalLimits.j1 kj11 t241 (Int.tmod (wrap64 (a0)) 321) t242 true)) else (customhouselaw04_NaturalLimits.j1 kj11 t241 (Int.tmod (wrap64 (a0)) 321) t242 true)) else (if (wrap64 ((Int.tmod (wrap64 (a0)) 321) + (Int.tmod (wrap64 (a1)) 321))) < 300 then (if bt245.2 = 0 then ((customhouselaw04_zeros.f kj11 (wrap64 ((Int.tmod (wrap64 (a0)) 321) + (Int.tmod (wrap64 (a1)) 321)))).bind fun t248 => (customhouselaw04_NaturalLimits.j1 kj11 t241 (Int.tmod (wrap64 (a0)) 321) t242 (bt245.1.toList != t248.toList))) else (customhouselaw04_NaturalLimits.j1 kj11 t241 (Int.tmod (wrap64 (a0)) 321) t242 true)) else (customhouselaw04_NaturalLimits.j1 kj11 t241 (Int.tmod (wrap64 (a0)) 321) t242 false)))) = some r := by rw [if_neg (show ¬ (false = true) by decide)] at H; exact H
          clear H
          have H := H1
          clear H1
          replace H := Option.bind_eq_some_iff.mp H
          obtain ⟨⟨t245, t246⟩, A190, H⟩ := H
          replace H : (if (wrap64 ((Int.tmod (wrap64 (a0)) 321) + (Int.tmod (wrap64 (a1)) 321))) ≥ 300 then (if t246 = 2 then (if t245.toList = ([] : List UInt8) then (if (wrap64 ((Int.tmod (wrap64 (a0)) 321) + (Int.tmod (wrap64 (a1)) 321))) < 300 then (if t246 = 0 then ((customhouselaw04_zeros.f kj11 (wrap64 ((Int.tmod (wrap64 (a0)) 321) + (Int.tmod (wrap64 (a1)) 321)))).bind fun t247 => (customhouselaw04_NaturalLimits.j1 kj11 t241 (Int.tmod (wrap64 (a0)) 321) t242 (t245.toList != t247.toList))) else (customhouselaw04_NaturalLimits.j1 kj11 t241 (Int.tmod (wrap64 (a0)) 321) t242 true)) else (customhouselaw04_NaturalLimits.j1 kj11 t241 (Int.tmod (wrap64 (a0)) 321) t242 false)) else (customhouselaw04_NaturalLimits.j1 kj11 t241 (Int.tmod (wrap64 (a0)) 321) t242 true)) else (customhouselaw04_NaturalLimits.j1 kj11 t241 (Int.tmod (wrap64 (a0)) 321) t242 true)) else (if (wrap64 ((Int.tmod (wrap64 (a0)) 321) + (Int.tmod (wrap64 (a1)) 321))) < 300 then (if t246 = 0 then ((customhouselaw04_zeros.f kj11 (wrap64 ((Int.tmod (wrap64 (a0)) 321) + (Int.tmod (wrap64 (a1)) 321)))).bind fun t248 => (customhouselaw04_NaturalLimits.j1 kj11 t241 (Int.tmod (wrap64 (a0)) 321) t242 (t245.toList != t248.toList))) else (customhouselaw04_NaturalLimits.j1 kj11 t241 (Int.tmod (wrap64 (a0)) 321) t242 true)) else (customhouselaw04_NaturalLimits.j1 kj11 t241 (Int.tmod (wrap64 (a0)) 321) t242 false))) = some r := H
          have A19 := Aside0.mk A190
          clear A190
          have HC20 := Aside0.mk H
          clear H
          go_upto_region 11 with (first | ((with_reducible refine gate_callee (f := 18) rfl ?_); refine goesL_ (some 42) rfl rfl Tryd.func18 (by kernel_rfl) rfl #[.string t242, .string t243] rfl (by (try simp only [List.map_toArray, List.map_cons, List.map_nil]); first | done | rfl | (simp only [List.length_drop, List.length_take]; rfl)) ?_; (with_reducible refine (natural_Mul.calls t242 t243 t245 t246 _ A19.out ?side1).mono ?_); (case side1 => exact GOK.below HG.out (by repeat (first | (with_reducible first | exact HB.out | apply below_alloc | apply pw_below_drewN | apply below_drew1) | exact HB.out))); rintro e w21 ⟨rfl, hb⟩; refine ⟨_, rfl, ?_⟩; have n0_ := Aside0.mk (below_step (by repeat (first | (with_reducible first | exact HB.out | apply below_alloc | apply pw_below_drewN | apply below_drew1) | exact HB.out)) hb); clear HB; have HB := n0_; clear n0_; (try clear hb); (try clear hb2); (try clear hk); (try clear hi)))
          (try simp only [Act.put, List.setIfInBounds_toArray, List.set_cons_zero, List.set_cons_succ])
          go_cut [74] (fun v74 wc => ∃ (kq : Nat) (x74_19 : Bool), v74 = .bool x74_19 ∧ Aside0 (customhouselaw04_NaturalLimits.j1 kq t241 (Int.tmod (wrap64 (a0)) 321) t242 x74_19 = some r) ∧ Aside0 (kq ≤ kj11) ∧ Aside0 (Below w.heap.size w wc))
          case first =>
            have H := HC20.out
            clear HC20
            by_cases c22 : (wrap64 ((Int.tmod (wrap64 (a0)) 321) + (Int.tmod (wrap64 (a1)) 321))) ≥ 300
            · rw [if_pos c22] at H
              have c22b0 : decide (300 ≤ (wrap64 ((Int.tmod (wrap64 (a0)) 321) + (Int.tmod (wrap64 (a1)) 321)))) = true := decide_eq_true c22
              clear c22
              (first | rw [c22b0] | (simp only [i64_w, i32_w]; rw [c22b0]) | skip)
              by_cases c23 : t246 = 2
              · rw [if_pos c23] at H
                have c23b0 : (t246 == 2) = true := beq_iff_eq.mpr c23
                have c23b1 : (t246 != 2) = false := bne_eq_false_iff_eq.mpr c23
                clear c23
                by_cases c24 : t245.toList = ([] : List UInt8)
                · rw [if_pos c24] at H
                  have c24b0 : (t245.toList == ([] : List UInt8)) = true := beq_iff_eq.mpr c24
                  have c24b1 : (t245.toList != ([] : List UInt8)) = false := bne_eq_false_iff_eq.mpr c24
                  clear c24
                  by_cases c25 : (wrap64 ((Int.tmod (wrap64 (a0)) 321) + (Int.tmod (wrap64 (a1)) 321))) < 300
                  · rw [if_pos c25] at H
                    have c25b0 : decide ((wrap64 ((Int.tmod (wrap64 (a0)) 321) + (Int.tmod (wrap64 (a1)) 321))) < 300) = true := decide_eq_true c25
                    clear c25
                    by_cases c26 : t246 = 0
                    · rw [if_pos c26] at H
                      have c26b0 : (t246 == 0) = true := beq_iff_eq.mpr c26
                      have c26b1 : (t246 != 0) = false := bne_eq_false_iff_eq.mpr c26
                      clear c26
                      replace H := Option.bind_eq_some_iff.mp H
                      obtain ⟨t247, A270, H⟩ := H
                      replace H : (customhouselaw04_NaturalLimits.j1 kj11 t241 (Int.tmod (wrap64 (a0)) 321) t242 (t245.toList != t247.toList)) = some r := H
                      have A27 := Aside0.mk A270
                      clear A270
                      have H' := Aside0.mk H
                      clear H
                      go_wp2_with (first | (go_at_call 21; (with_reducible refine (customhouselaw04_zeros.calls kj11 (wrap64 ((Int.tmod (wrap64 (a0)) 321) + (Int.tmod (wrap64 (a1)) 321))) t247 _ A27.out).mono ?_); rintro e w28 ⟨rfl, hb⟩; have n0_ := Aside0.mk (below_step (by repeat (first | (with_reducible first | exact HB.out | apply below_alloc | apply pw_below_drewN | apply below_drew1) | exact HB.out)) hb); clear HB; have HB := n0_; clear n0_; (try clear hb); (try clear hb2); (try clear hk); (try clear hi)))
                      go_meet
                      case rel => exact ⟨_, ((t245.toList != t247.toList)), (by first | rfl | (simp; done) | (simp [*]; done)), H', ⟨by have := HJ11.out; first | omega | exact Nat.le_refl _⟩, ⟨by repeat (first | (with_reducible first | exact HB.out | apply below_alloc | apply pw_below_drewN | apply below_drew1) | exact HB.out)⟩⟩
                    · rw [if_neg c26] at H
                      have c26b0 : (t246 == 0) = false := beq_eq_false_iff_ne.mpr c26
                      have c26b1 : (t246 != 0) = true := bne_iff_ne.mpr c26
                      have H' := Aside0.mk H
                      clear H
                      go_wp2
                      go_meet
                      case rel => exact ⟨_, (true), (by first | rfl | (simp; done) | (simp [*]; done)), H', ⟨by have := HJ11.out; first | omega | exact Nat.le_refl _⟩, ⟨by repeat (first | (with_reducible first | exact HB.out | apply below_alloc | apply pw_below_drewN | apply below_drew1) | exact HB.out)⟩⟩
                  · rw [if_neg c25] at H
                    have c25b0 : decide ((wrap64 ((Int.tmod (wrap64 (a0)) 321) + (Int.tmod (wrap64 (a1)) 321))) < 300) = false := decide_eq_false c25
                    clear c25
                    have H' := Aside0.mk H
                    clear H
                    go_wp2
                    go_meet
                    case rel => exact ⟨_, (false), (by first | rfl | (simp; done) | (simp [*]; done)), H', ⟨by have := HJ11.out; first | omega | exact Nat.le_refl _⟩, ⟨by repeat (first | (with_reducible first | exact HB.out | apply below_alloc | apply pw_below_drewN | apply below_drew1) | exact HB.out)⟩⟩
                · rw [if_neg c24] at H
                  have c24b0 : (t245.toList == ([] : List UInt8)) = false := beq_eq_false_iff_ne.mpr c24
                  have c24b1 : (t245.toList != ([] : List UInt8)) = true := bne_iff_ne.mpr c24
                  have H' := Aside0.mk H
                  clear H
                  go_wp2
                  go_meet
                  case rel => exact ⟨_, (true), (by first | rfl | (simp; done) | (simp [*]; done)), H', ⟨by have := HJ11.out; first | omega | exact Nat.le_refl _⟩, ⟨by repeat (first | (with_reducible first | exact HB.out | apply below_alloc | apply pw_below_drewN | apply below_drew1) | exact HB.out)⟩⟩
              · rw [if_neg c23] at H
                have c23b0 : (t246 == 2) = false := beq_eq_false_iff_ne.mpr c23
                have c23b1 : (t246 != 2) = true := bne_iff_ne.mpr c23
                have H' := Aside0.mk H
                clear H
                go_wp2
                go_meet
                case rel => exact ⟨_, (true), (by first | rfl | (simp; done) | (simp [*]; done)), H', ⟨by have := HJ11.out; first | omega | exact Nat.le_refl _⟩, ⟨by repeat (first | (with_reducible first | exact HB.out | apply below_alloc | apply pw_below_drewN | apply below_drew1) | exact HB.out)⟩⟩
            · rw [if_neg c22] at H
              have c22b0 : decide (300 ≤ (wrap64 ((Int.tmod (wrap64 (a0)) 321) + (Int.tmod (wrap64 (a1)) 321)))) = false := decide_eq_false c22
              clear c22
              (first | rw [c22b0] | (simp only [i64_w, i32_w]; rw [c22b0]) | skip)
              by_cases c29 : (wrap64 ((Int.tmod (wrap64 (a0)) 321) + (Int.tmod (wrap64 (a1)) 321))) < 300
              · rw [if_pos c29] at H
                have c29b0 : decide ((wrap64 ((Int.tmod (wrap64 (a0)) 321) + (Int.tmod (wrap64 (a1)) 321))) < 300) = true := decide_eq_true c29
                clear c29
                by_cases c30 : t246 = 0
                · rw [if_pos c30] at H
                  have c30b0 : (t246 == 0) = true := beq_iff_eq.mpr c30
                  have c30b1 : (t246 != 0) = false := bne_eq_false_iff_eq.mpr c30
                  clear c30
                  replace H := Option.bind_eq_some_iff.mp H
                  obtain ⟨t248, A310, H⟩ := H
                  replace H : (customhouselaw04_NaturalLimits.j1 kj11 t241 (Int.tmod (wrap64 (a0)) 321) t242 (t245.toList != t248.toList)) = some r := H
                  have A31 := Aside0.mk A310
                  clear A310
                  have H' := Aside0.mk H
                  clear H
                  go_wp2_with (first | (go_at_call 21; (with_reducible refine (customhouselaw04_zeros.calls kj11 (wrap64 ((Int.tmod (wrap64 (a0)) 321) + (Int.tmod (wrap64 (a1)) 321))) t248 _ A31.out).mono ?_); rintro e w32 ⟨rfl, hb⟩; have n0_ := Aside0.mk (below_step (by repeat (first | (with_reducible first | exact HB.out | apply below_alloc | apply pw_below_drewN | apply below_drew1) | exact HB.out)) hb); clear HB; have HB := n0_; clear n0_; (try clear hb); (try clear hb2); (try clear hk); (try clear hi)))
                  go_meet
                  case rel => exact ⟨_, ((t245.toList != t248.toList)), (by first | rfl | (simp; done) | (simp [*]; done)), H', ⟨by have := HJ11.out; first | omega | exact Nat.le_refl _⟩, ⟨by repeat (first | (with_reducible first | exact HB.out | apply below_alloc | apply pw_below_drewN | apply below_drew1) | exact HB.out)⟩⟩
                · rw [if_neg c30] at H
                  have c30b0 : (t246 == 0) = false := beq_eq_false_iff_ne.mpr c30
                  have c30b1 : (t246 != 0) = true := bne_iff_ne.mpr c30
                  have H' := Aside0.mk H
                  clear H
                  go_wp2
                  go_meet
                  case rel => exact ⟨_, (true), (by first | rfl | (simp; done) | (simp [*]; done)), H', ⟨by have := HJ11.out; first | omega | exact Nat.le_refl _⟩, ⟨by repeat (first | (with_reducible first | exact HB.out | apply below_alloc | apply pw_below_drewN | apply below_drew1) | exact HB.out)⟩⟩
              · rw [if_neg c29] at H
                have c29b0 : decide ((wrap64 ((Int.tmod (wrap64 (a0)) 321) + (Int.tmod (wrap64 (a1)) 321))) < 300) = false := decide_eq_false c29
                clear c29
                have H' := Aside0.mk H
                clear H
                go_wp2
                go_meet
                case rel => exact ⟨_, (false), (by first | rfl | (simp; done) | (simp [*]; done)), H', ⟨by have := HJ11.out; first | omega | exact Nat.le_refl _⟩, ⟨by repeat (first | (with_reducible first | exact HB.out | apply below_alloc | apply pw_below_drewN | apply below_drew1) | exact HB.out)⟩⟩
          case rest =>
            clear HC20
            try clear c1
            try clear c2
            try clear p2
            try clear c3
            try clear p6
            try clear c7
            try clear c7b0
            try clear c7b1
            try clear c7b2
            try clear c9
            try clear c11
            try clear c14
            try clear c17
            try clear c17b0
            try clear c18
            try clear c21
            try clear c22
            try clear c22b0
            try clear c23
            try clear c23b0
            try clear c23b1
            try clear c24
            try clear c24b0
            try clear c24b1
            try clear c25
            try clear c25b0
            try clear c26
            try clear c26b0
            try clear c26b1
            try clear c29
            try clear c29b0
            try clear c30
            try clear c30b0
            try clear c30b1
            try clear p2
            try clear p6
            obtain ⟨kq, x74_19, rfl, HA, HJ19, HB⟩ := hcut
            cases kq with
            | zero => exact absurd HA.out (by simp [customhouselaw04_NaturalLimits.j1])
            | succ kj19 =>
              have H := HA.out
              clear HA
              simp only [customhouselaw04_NaturalLimits.j1] at H
              by_cases c33 : x74_19 = true
              · subst c33
                have H1 : (some false) = some r := by rw [if_pos rfl] at H; exact H
                clear H
                have H := H1
                clear H1
                obtain rfl := Option.some.inj H
                go_wp2
                go_ret
                exact ⟨by first | rfl | (simp [errW_none, errW_some] <;> rfl) | (simp [*, errW_none, errW_some] <;> rfl), by repeat (first | (with_reducible first | exact HB.out | apply below_alloc | apply pw_below_drewN | apply below_drew1) | exact HB.out)⟩
              · replace c33 := Bool.eq_false_iff.mpr c33
                subst c33
                have H1 : ((natural_Sub.f t242 (⟨#[49]⟩ : ByteArray)).bind fun bt249 => ((natural_Add.f bt249.1 (⟨#[49]⟩ : ByteArray)).bind fun bt251 => (if t241 = true then (if bt249.2 = 0 then (if bt251.2 = 0 then (if bt251.1.toList = t242.toList then (some ((bt249.1.size : Int) == (mx 1 (Int.tmod (wrap64 (a0)) 321)))) else (some false)) else (some false)) else (some false)) else (some false)))) = some r := by rw [if_neg (show ¬ (false = true) by decide)] at H; exact H
                clear H
                have H := H1
                clear H1
                replace H := Option.bind_eq_some_iff.mp H
                obtain ⟨⟨t249, t250⟩, A340, H⟩ := H
                replace H : ((natural_Add.f t249 (⟨#[49]⟩ : ByteArray)).bind fun bt251 => (if t241 = true then (if t250 = 0 then (if bt251.2 = 0 then (if bt251.1.toList = t242.toList then (some ((t249.size : Int) == (mx 1 (Int.tmod (wrap64 (a0)) 321)))) else (some false)) else (some false)) else (some false)) else (some false))) = some r := H
                have A34 := Aside0.mk A340
                clear A340
                replace H := Option.bind_eq_some_iff.mp H
                obtain ⟨⟨t251, t252⟩, A350, H⟩ := H
                replace H : (if t241 = true then (if t250 = 0 then (if t252 = 0 then (if t251.toList = t242.toList then (some ((t249.size : Int) == (mx 1 (Int.tmod (wrap64 (a0)) 321)))) else (some false)) else (some false)) else (some false)) else (some false)) = some r := H
                have A35 := Aside0.mk A350
                clear A350
                by_cases c36 : t241 = true
                · subst c36
                  have H1 : (if t250 = 0 then (if t252 = 0 then (if t251.toList = t242.toList then (some ((t249.size : Int) == (mx 1 (Int.tmod (wrap64 (a0)) 321)))) else (some false)) else (some false)) else (some false)) = some r := by rw [if_pos rfl] at H; exact H
                  clear H
                  have H := H1
                  clear H1
                  by_cases c37 : t250 = 0
                  · rw [if_pos c37] at H
                    have c37b0 : (t250 == 0) = true := beq_iff_eq.mpr c37
                    have c37b1 : (t250 != 0) = false := bne_eq_false_iff_eq.mpr c37
                    clear c37
                    by_cases c38 : t252 = 0
                    · rw [if_pos c38] at H
                      have c38b0 : (t252 == 0) = true := beq_iff_eq.mpr c38
                      have c38b1 : (t252 != 0) = false := bne_eq_false_iff_eq.mpr c38
                      clear c38
                      by_cases c39 : t251.toList = t242.toList
                      · rw [if_pos c39] at H
                        have c39b0 : (t251.toList == t242.toList) = true := beq_iff_eq.mpr c39
                        have c39b1 : (t251.toList != t242.toList) = false := bne_eq_false_iff_eq.mpr c39
                        clear c39
                        obtain ⟨ji40, hji40⟩ : ∃ j_ : Int, (mx 1 (Int.tmod (wrap64 (a0)) 321)) = j_ := ⟨_, rfl⟩
                        replace H : (some ((t249.size : Int) == (ji40))) = some r := by first | (rw [hji40] at H; exact H) | (simp only [hji40] at H ⊢; exact H)
                        (try rw [hji40] at A34)
                        (try rw [hji40] at A35)
                        have hji40_ : (if 1 < (Int.tmod (wrap64 (a0)) 321) then (Int.tmod (wrap64 (a0)) 321) else 1) = ji40 := hji40
                        obtain rfl := Option.some.inj H
                        go_wp2_with (first | ((with_reducible refine gate_callee (f := 20) rfl ?_); refine goesL_ (some 77) rfl rfl Tryd.func20 (by kernel_rfl) rfl #[.string t242, .string (⟨#[49]⟩ : ByteArray)] rfl (by (try simp only [List.map_toArray, List.map_cons, List.map_nil]); first | done | rfl | (simp only [List.length_drop, List.length_take]; rfl)) ?_; (with_reducible refine (natural_Sub.calls t242 (⟨#[49]⟩ : ByteArray) t249 t250 _ A34.out ?side1).mono ?_); (case side1 => exact GOK.below HG.out (by repeat (first | (with_reducible first | exact HB.out | apply below_alloc | apply pw_below_drewN | apply below_drew1) | exact HB.out))); rintro e w41 ⟨rfl, hb⟩; refine ⟨_, rfl, ?_⟩; have n0_ := Aside0.mk (below_step (by repeat (first | (with_reducible first | exact HB.out | apply below_alloc | apply pw_below_drewN | apply below_drew1) | exact HB.out)) hb); clear HB; have HB := n0_; clear n0_; (try clear hb); (try clear hb2); (try clear hk); (try clear hi)) | ((with_reducible refine gate_callee (f := 19) rfl ?_); refine goesL_ (some 82) rfl rfl Tryd.func19 (by kernel_rfl) rfl #[.string t249, .string (⟨#[49]⟩ : ByteArray)] rfl (by (try simp only [List.map_toArray, List.map_cons, List.map_nil]); first | done | rfl | (simp only [List.length_drop, List.length_take]; rfl)) ?_; (with_reducible refine (natural_Add.calls t249 (⟨#[49]⟩ : ByteArray) t251 t252 _ A35.out ?side1).mono ?_); (case side1 => exact GOK.below HG.out (by repeat (first | (with_reducible first | exact HB.out | apply below_alloc | apply pw_below_drewN | apply below_drew1) | exact HB.out))); rintro e w42 ⟨rfl, hb⟩; refine ⟨_, rfl, ?_⟩; have n0_ := Aside0.mk (below_step (by repeat (first | (with_reducible first | exact HB.out | apply below_alloc | apply pw_below_drewN | apply below_drew1) | exact HB.out)) hb); clear HB; have HB := n0_; clear n0_; (try clear hb); (try clear hb2); (try clear hk); (try clear hi)))
                        go_ret
                        exact ⟨by first | rfl | (simp [errW_none, errW_some] <;> rfl) | (simp only [← hji40]; first | rfl | (simp [errW_none, errW_some] <;> rfl)) | (simp [*, errW_none, errW_some] <;> rfl), by repeat (first | (with_reducible first | exact HB.out | apply below_alloc | apply pw_below_drewN | apply below_drew1) | exact HB.out)⟩
                      · rw [if_neg c39] at H
                        have c39b0 : (t251.toList == t242.toList) = false := beq_eq_false_iff_ne.mpr c39
                        have c39b1 : (t251.toList != t242.toList) = true := bne_iff_ne.mpr c39
                        obtain rfl := Option.some.inj H
                        go_wp2_with (first | ((with_reducible refine gate_callee (f := 20) rfl ?_); refine goesL_ (some 77) rfl rfl Tryd.func20 (by kernel_rfl) rfl #[.string t242, .string (⟨#[49]⟩ : ByteArray)] rfl (by (try simp only [List.map_toArray, List.map_cons, List.map_nil]); first | done | rfl | (simp only [List.length_drop, List.length_take]; rfl)) ?_; (with_reducible refine (natural_Sub.calls t242 (⟨#[49]⟩ : ByteArray) t249 t250 _ A34.out ?side1).mono ?_); (case side1 => exact GOK.below HG.out (by repeat (first | (with_reducible first | exact HB.out | apply below_alloc | apply pw_below_drewN | apply below_drew1) | exact HB.out))); rintro e w43 ⟨rfl, hb⟩; refine ⟨_, rfl, ?_⟩; have n0_ := Aside0.mk (below_step (by repeat (first | (with_reducible first | exact HB.out | apply below_alloc | apply pw_below_drewN | apply below_drew1) | exact HB.out)) hb); clear HB; have HB := n0_; clear n0_; (try clear hb); (try clear hb2); (try clear hk); (try clear hi)) | ((with_reducible refine gate_callee (f := 19) rfl ?_); refine goesL_ (some 82) rfl rfl Tryd.func19 (by kernel_rfl) rfl #[.string t249, .string (⟨#[49]⟩ : ByteArray)] rfl (by (try simp only [List.map_toArray, List.map_cons, List.map_nil]); first | done | rfl | (simp only [List.length_drop, List.length_take]; rfl)) ?_; (with_reducible refine (natural_Add.calls t249 (⟨#[49]⟩ : ByteArray) t251 t252 _ A35.out ?side1).mono ?_); (case side1 => exact GOK.below HG.out (by repeat (first | (with_reducible first | exact HB.out | apply below_alloc | apply pw_below_drewN | apply below_drew1) | exact HB.out))); rintro e w44 ⟨rfl, hb⟩; refine ⟨_, rfl, ?_⟩; have n0_ := Aside0.mk (below_step (by repeat (first | (with_reducible first | exact HB.out | apply below_alloc | apply pw_below_drewN | apply below_drew1) | exact HB.out)) hb); clear HB; have HB := n0_; clear n0_; (try clear hb); (try clear hb2); (try clear hk); (try clear hi)))
                        go_ret
                        exact ⟨by first | rfl | (simp [errW_none, errW_some] <;> rfl) | (simp [*, errW_none, errW_some] <;> rfl), by repeat (first | (with_reducible first | exact HB.out | apply below_alloc | apply pw_below_drewN | apply below_drew1) | exact HB.out)⟩
                    · rw [if_neg c38] at H
                      have c38b0 : (t252 == 0) = false := beq_eq_false_iff_ne.mpr c38
                      have c38b1 : (t252 != 0) = true := bne_iff_ne.mpr c38
                      obtain rfl := Option.some.inj H
                      go_wp2_with (first | ((with_reducible refine gate_callee (f := 20) rfl ?_); refine goesL_ (some 77) rfl rfl Tryd.func20 (by kernel_rfl) rfl #[.string t242, .string (⟨#[49]⟩ : ByteArray)] rfl (by (try simp only [List.map_toArray, List.map_cons, List.map_nil]); first | done | rfl | (simp only [List.length_drop, List.length_take]; rfl)) ?_; (with_reducible refine (natural_Sub.calls t242 (⟨#[49]⟩ : ByteArray) t249 t250 _ A34.out ?side1).mono ?_); (case side1 => exact GOK.below HG.out (by repeat (first | (with_reducible first | exact HB.out | apply below_alloc | apply pw_below_drewN | apply below_drew1) | exact HB.out))); rintro e w45 ⟨rfl, hb⟩; refine ⟨_, rfl, ?_⟩; have n0_ := Aside0.mk (below_step (by repeat (first | (with_reducible first | exact HB.out | apply below_alloc | apply pw_below_drewN | apply below_drew1) | exact HB.out)) hb); clear HB; have HB := n0_; clear n0_; (try clear hb); (try clear hb2); (try clear hk); (try clear hi)) | ((with_reducible refine gate_callee (f := 19) rfl ?_); refine goesL_ (some 82) rfl rfl Tryd.func19 (by kernel_rfl) rfl #[.string t249, .string (⟨#[49]⟩ : ByteArray)] rfl (by (try simp only [List.map_toArray, List.map_cons, List.map_nil]); first | done | rfl | (simp only [List.length_drop, List.length_take]; rfl)) ?_; (with_reducible refine (natural_Add.calls t249 (⟨#[49]⟩ : ByteArray) t251 t252 _ A35.out ?side1).mono ?_); (case side1 => exact GOK.below HG.out (by repeat (first | (with_reducible first | exact HB.out | apply below_alloc | apply pw_below_drewN | apply below_drew1) | exact HB.out))); rintro e w46 ⟨rfl, hb⟩; refine ⟨_, rfl, ?_⟩; have n0_ := Aside0.mk (below_step (by repeat (first | (with_reducible first | exact HB.out | apply below_alloc | apply pw_below_drewN | apply below_drew1) | exact HB.out)) hb); clear HB; have HB := n0_; clear n0_; (try clear hb); (try clear hb2); (try clear hk); (try clear hi)))
                      go_ret
                      exact ⟨by first | rfl | (simp [errW_none, errW_some] <;> rfl) | (simp [*, errW_none, errW_some] <;> rfl), by repeat (first | (with_reducible first | exact HB.out | apply below_alloc | apply pw_below_drewN | apply below_drew1) | exact HB.out)⟩
                  · rw [if_neg c37] at H
                    have c37b0 : (t250 == 0) = false := beq_eq_false_iff_ne.mpr c37
                    have c37b1 : (t250 != 0) = true := bne_iff_ne.mpr c37
                    obtain rfl := Option.some.inj H
                    go_wp2_with (first | ((with_reducible refine gate_callee (f := 20) rfl ?_); refine goesL_ (some 77) rfl rfl Tryd.func20 (by kernel_rfl) rfl #[.string t242, .string (⟨#[49]⟩ : ByteArray)] rfl (by (try simp only [List.map_toArray, List.map_cons, List.map_nil]); first | done | rfl | (simp only [List.length_drop, List.length_take]; rfl)) ?_; (with_reducible refine (natural_Sub.calls t242 (⟨#[49]⟩ : ByteArray) t249 t250 _ A34.out ?side1).mono ?_); (case side1 => exact GOK.below HG.out (by repeat (first | (with_reducible first | exact HB.out | apply below_alloc | apply pw_below_drewN | apply below_drew1) | exact HB.out))); rintro e w47 ⟨rfl, hb⟩; refine ⟨_, rfl, ?_⟩; have n0_ := Aside0.mk (below_step (by repeat (first | (with_reducible first | exact HB.out | apply below_alloc | apply pw_below_drewN | apply below_drew1) | exact HB.out)) hb); clear HB; have HB := n0_; clear n0_; (try clear hb); (try clear hb2); (try clear hk); (try clear hi)) | ((with_reducible refine gate_callee (f := 19) rfl ?_); refine goesL_ (some 82) rfl rfl Tryd.func19 (by kernel_rfl) rfl #[.string t249, .string (⟨#[49]⟩ : ByteArray)] rfl (by (try simp only [List.map_toArray, List.map_cons, List.map_nil]); first | done | rfl | (simp only [List.length_drop, List.length_take]; rfl)) ?_; (with_reducible refine (natural_Add.calls t249 (⟨#[49]⟩ : ByteArray) t251 t252 _ A35.out ?side1).mono ?_); (case side1 => exact GOK.below HG.out (by repeat (first | (with_reducible first | exact HB.out | apply below_alloc | apply pw_below_drewN | apply below_drew1) | exact HB.out))); rintro e w48 ⟨rfl, hb⟩; refine ⟨_, rfl, ?_⟩; have n0_ := Aside0.mk (below_step (by repeat (first | (with_reducible first | exact HB.out | apply below_alloc | apply pw_below_drewN | apply below_drew1) | exact HB.out)) hb); clear HB; have HB := n0_; clear n0_; (try clear hb); (try clear hb2); (try clear hk); (try clear hi)))
                    go_ret
                    exact ⟨by first | rfl | (simp [errW_none, errW_some] <;> rfl) | (simp [*, errW_none, errW_some] <;> rfl), by repeat (first | (with_reducible first | exact HB.out | apply below_alloc | apply pw_below_drewN | apply below_drew1) | exact HB.out)⟩
                · replace c36 := Bool.eq_false_iff.mpr c36
                  subst c36
                  have H1 : (some false) = some r := by rw [if_neg (show ¬ (false = true) by decide)] at H; exact H
                  clear H
                  have H := H1
                  clear H1
                  obtain rfl := Option.some.inj H
                  go_wp2_with (first | ((with_reducible refine gate_callee (f := 20) rfl ?_); refine goesL_ (some 77) rfl rfl Tryd.func20 (by kernel_rfl) rfl #[.string t242, .string (⟨#[49]⟩ : ByteArray)] rfl (by (try simp only [List.map_toArray, List.map_cons, List.map_nil]); first | done | rfl | (simp only [List.length_drop, List.length_take]; rfl)) ?_; (with_reducible refine (natural_Sub.calls t242 (⟨#[49]⟩ : ByteArray) t249 t250 _ A34.out ?side1).mono ?_); (case side1 => exact GOK.below HG.out (by repeat (first | (with_reducible first | exact HB.out | apply below_alloc | apply pw_below_drewN | apply below_drew1) | exact HB.out))); rintro e w49 ⟨rfl, hb⟩; refine ⟨_, rfl, ?_⟩; have n0_ := Aside0.mk (below_step (by repeat (first | (with_reducible first | exact HB.out | apply below_alloc | apply pw_below_drewN | apply below_drew1) | exact HB.out)) hb); clear HB; have HB := n0_; clear n0_; (try clear hb); (try clear hb2); (try clear hk); (try clear hi)) | ((with_reducible refine gate_callee (f := 19) rfl ?_); refine goesL_ (some 82) rfl rfl Tryd.func19 (by kernel_rfl) rfl #[.string t249, .string (⟨#[49]⟩ : ByteArray)] rfl (by (try simp only [List.map_toArray, List.map_cons, List.map_nil]); first | done | rfl | (simp only [List.length_drop, List.length_take]; rfl)) ?_; (with_reducible refine (natural_Add.calls t249 (⟨#[49]⟩ : ByteArray) t251 t252 _ A35.out ?side1).mono ?_); (case side1 => exact GOK.below HG.out (by repeat (first | (with_reducible first | exact HB.out | apply below_alloc | apply pw_below_drewN | apply below_drew1) | exact HB.out))); rintro e w50 ⟨rfl, hb⟩; refine ⟨_, rfl, ?_⟩; have n0_ := Aside0.mk (below_step (by repeat (first | (with_reducible first | exact HB.out | apply below_alloc | apply pw_below_drewN | apply below_drew1) | exact HB.out)) hb); clear HB; have HB := n0_; clear n0_; (try clear hb); (try clear hb2); (try clear hk); (try clear hi)))
                  go_ret
                  exact ⟨by first | rfl | (simp [errW_none, errW_some] <;> rfl) | (simp [*, errW_none, errW_some] <;> rfl), by repeat (first | (with_reducible first | exact HB.out | apply below_alloc | apply pw_below_drewN | apply below_drew1) | exact HB.out)⟩

end Go.Proofs.YtdojfnjgipeogaaDoor.La
