/- The closure of div: does the divisor, taken k + 1 times, exceed the rest? -/
import Derived.Test.YtdojfnjgipeogaaGreatDoorNatE
import Derived.Deep.RegionHeld
namespace Go.Proofs.YtdojfnjgipeogaaGreatDoor
open Go.RowKit Go.Shelf Go.Proofs.YtdojfnjgipeogaaGreatDoorW.PrintWords Go.Proofs.YtdojfnjgipeogaaGreatDoorW.PrintMore NatB

theorem cmpI_pos (a b : Int) : (decide (cmpI a b > 0)) = decide (b < a) := by unfold cmpI; congr 1; apply propext; split <;> (try split) <;> omega
theorem cmpI_neg (a b : Int) : (decide (cmpI a b < 0)) = decide (a < b) := by unfold cmpI; congr 1; apply propext; split <;> (try split) <;> omega

/-- What holds all along the region: the two captured variables, and that memory has only been made. -/
def Cap (W : World) (pm pr : Nat) (vm vr : Value) (W' : World) : Prop := W'.cell? ⟨pm, 0, none⟩ = some vm ∧ W'.cell? ⟨pr, 0, none⟩ = some vr ∧ Below W.heap.size W W'
theorem Cap.later {W : World} {pm pr : Nat} {vm vr : Value} {W1 W2 : World} (h : W1.cell? ⟨pm, 0, none⟩ = some vm ∧ W1.cell? ⟨pr, 0, none⟩ = some vr ∧ Below W.heap.size W W1) (hb : Below W1.heap.size W1 W2) :
    W2.cell? ⟨pm, 0, none⟩ = some vm ∧ W2.cell? ⟨pr, 0, none⟩ = some vr ∧ Below W.heap.size W W2 :=
  ⟨(hb.cell (World.block_lt_of_cell? W1 _ h.1)).trans h.1, (hb.cell (World.block_lt_of_cell? W1 _ h.2.1)).trans h.2.1, below_then h.2.2 h.2.2.size hb⟩

set_option maxHeartbeats 4000000 in
set_option maxRecDepth 1000000 in
theorem divkC (W : World) (pm pr : Nat) (vm vr : Value) (M R k : Nat) (hm : W.cell? ⟨pm, 0, none⟩ = some vm) (hr : W.cell? ⟨pr, 0, none⟩ = some vr) (hM : RD W vm M) (hR : RD W vr R)
    (lM : (limbs M).length ≤ 50000) (lR : (limbs R).length ≤ 50000) (lMk : (limbs (M * (k + 1))).length ≤ 60000) (hk : k < 999999999) :
    Calls Tryz.prog 49 #[.int .i64 k, .pointer (some ⟨pm, 0, none⟩), .pointer (some ⟨pr, 0, none⟩)] W fun e w' => e = .returned (.bool (decide (R < M * (k + 1)))) ∧ Below W.heap.size W w' := by
  have l1 : (limbs (k + 1)).length = 1 := by rw [limbs_pos (by omega), show (k + 1) / 1000000000 = 0 by omega, limbs_zero]; rfl
  have hw : IntKind.u64.wrap (IntKind.i64.wrap ((k : Int) + 1)) = (k : Int) + 1 := by rw [IntKind.wrap_i64, wu64 (by omega) (by omega)]; omega
  have hM := Lib.hid hM
  have hR := Lib.hid hR
  have lM := Lib.hid lM
  have lR := Lib.hid lR
  have lMk := Lib.hid lMk
  have l1 := Lib.hid l1
  have a1 : Calls Tryz.prog 43 #[vm, .slice (some ⟨W.heap.size, 0, none⟩) 1 1] (W.alloc (.cells #[.int .u64 ((k : Int) + 1)] 54)).drew fun e w' => ∃ v, e = .returned v ∧ RD w' v (M * (k + 1)) ∧ Below (W.alloc (.cells #[.int .u64 ((k : Int) + 1)] 54)).drew.heap.size (W.alloc (.cells #[.int .u64 ((k : Int) + 1)] 54)).drew w' := by
    refine mulC _ _ _ M (k + 1) ?_ ?_ ?_ trivial
    · exact hM.out.below (pw_below_drewN (below_alloc (Below.refl _ _) _) 1)
    · rw [show (k : Int) + 1 = ((k + 1 : Nat) : Int) by omega]; exact (RD.one W (k + 1) (by omega) (by omega)).below (pw_below_drewN (Below.refl _ _) 1)
    · have := lM.out; have := l1.out; omega
  go_enter Tryz.func49, Tryz.ntmps49
  go_wp2
  go_region_held (fun w' => w'.cell? ⟨pm, 0, none⟩ = some vm ∧ w'.cell? ⟨pr, 0, none⟩ = some vr ∧ Below W.heap.size W w')
    (first | exact ⟨hm, hr, pw_below_drewN (Below.refl _ _) 1⟩ | exact Cap.later ‹_› (below_alloc (Below.refl _ _) _) | exact Cap.later (Cap.later ‹_› (below_alloc (Below.refl _ _) _)) hb | exact Cap.later ‹_› hb)
    (first
      | (go_at_call 43; refine a1.mono ?_; rintro e w' ⟨v, rfl, hV, hb⟩)
      | (go_at_call 33; refine (cmpC _ _ _ (M * (k + 1)) R ?_ ?_ (by have := lMk.out; omega) (by have := lR.out; omega)).mono ?_; exact hV; exact hR.out.below (And.right (And.right ‹_ ∧ _ ∧ Below W.heap.size W _›)); rintro e w' ⟨rfl, hb⟩))
  go_wp2
  go_ret
  refine ⟨?_, And.right (And.right ‹_ ∧ _ ∧ Below W.heap.size W _›)⟩
  have e := cmpI_pos ((M * (k + 1) : Nat) : Int) (R : Int)
  rw [show ((M * (k + 1) : Nat) : Int) = (M : Int) * ((k : Int) + 1) by push_cast; rfl] at e
  simp only [gt_iff_lt] at e
  rw [e]
  have e2 : decide ((R : Int) < (M : Int) * ((k : Int) + 1)) = decide (R < M * (k + 1)) := by
    rw [show (M : Int) * ((k : Int) + 1) = ((M * (k + 1) : Nat) : Int) by push_cast; rfl]
    exact decide_eq_decide.2 Int.ofNat_lt
  rw [e2]
  rfl
end Go.Proofs.YtdojfnjgipeogaaGreatDoor
