/- Values that read as numbers; the operations on them; sort.Search; the closure of div. -/
import Derived.Test.YtdojfnjgipeogaaGreatDoorNatU
import Derived.Test.YtdojfnjgipeogaaGreatDoorNatC
import Derived.Deep.RegionWith
import Derived.Deep.LoopGhost
namespace Go.Proofs.YtdojfnjgipeogaaGreatDoor
open Go.RowKit Go.Shelf Go.Proofs.YtdojfnjgipeogaaGreatDoorW.PrintWords Go.Proofs.YtdojfnjgipeogaaGreatDoorW.PrintMore NatB

/-- The comparison of limbs is that of the numbers. -/
theorem cmpAt_law (l0 l1 : List Int) (h0 : vl l0) (h1 : vl l1) : ∀ k, k ≤ l0.length → k ≤ l1.length → cmpAt l0 l1 k = cmpI (numL (l0.take k) : Int) (numL (l1.take k) : Int)
  | 0, _, _ => by simp [cmpAt, numL, cmpI]
  | k + 1, hk0, hk1 => by
    have ih := cmpAt_law l0 l1 h0 h1 k (by omega) (by omega)
    have e0 := numL_take (l := l0) (i := k) (by omega)
    have e1 := numL_take (l := l1) (i := k) (by omega)
    have v0 := vl_rd h0 (i := k) (by omega)
    have v1 := vl_rd h1 (i := k) (by omega)
    have t0 := numL_lt (l := l0.take k) (fun x hx => h0 x (List.mem_of_mem_take hx))
    have t1 := numL_lt (l := l1.take k) (fun x hx => h1 x (List.mem_of_mem_take hx))
    rw [List.length_take, Nat.min_eq_left (by omega)] at t0 t1
    rw [e0, e1]
    show (if rd l0 (k : Int) = rd l1 (k : Int) then _ else _) = _
    split
    · rename_i he
      rw [ih, he]
      unfold cmpI
      generalize 1000000000 ^ k * (rd l1 (k : Int)).toNat = z
      split <;> split <;> (try split) <;> omega
    · rename_i he
      generalize hp : 1000000000 ^ k = p at *
      rcases Int.lt_or_gt_of_ne he with hlt | hgt
      · have h3 : p * ((rd l0 (k : Int)).toNat + 1) ≤ p * (rd l1 (k : Int)).toNat := Nat.mul_le_mul_left _ (by omega)
        rw [Nat.mul_add, Nat.mul_one] at h3
        unfold cmpI
        rw [if_pos hlt, if_pos (by omega)]
      · have h3 : p * ((rd l1 (k : Int)).toNat + 1) ≤ p * (rd l0 (k : Int)).toNat := Nat.mul_le_mul_left _ (by omega)
        rw [Nat.mul_add, Nat.mul_one] at h3
        unfold cmpI
        rw [if_neg (by omega), if_pos hgt, if_neg (by omega), if_pos (by omega)]
theorem cmp_law (a b : Nat) : cmpL (limbs a) (limbs b) = cmpI (a : Int) (b : Int) := by
  unfold cmpL
  split
  · rename_i h
    rw [cmpAt_law _ _ (vl_limbs a) (vl_limbs b) _ (Nat.le_refl _) (by omega), List.take_of_length_le (Nat.le_refl _), List.take_of_length_le (by omega), num_limbs, num_limbs]
  · rename_i h
    rcases Nat.lt_or_gt_of_ne h with hlt | hgt
    · have : a < b := by
        rcases Nat.lt_or_ge a b with h1 | h1
        · exact h1
        · have := limbs_len_le h1; omega
      unfold cmpI
      rw [if_pos (by omega), if_pos (by omega)]
    · have : b < a := by
        rcases Nat.lt_or_ge b a with h1 | h1
        · exact h1
        · have := limbs_len_le h1; omega
      unfold cmpI
      rw [if_neg (by omega), if_pos (by omega), if_neg (by omega), if_pos (by omega)]

/-- The value v reads as the number n in the world W. -/
def RD (W : World) (v : Value) (n : Nat) : Prop := ∃ A c, v = .slice A (limbs n).length c ∧ (limbs n).length ≤ c ∧ Kd.C (Kd.int .u64) W A (limbs n).length (limbs n)
theorem RD.below {W W' : World} {v : Value} {n : Nat} (h : RD W v n) (hb : Below W.heap.size W W') : RD W' v n := by
  obtain ⟨A, c, e, hc, hC⟩ := h
  exact ⟨A, c, e, hc, Kd.C_below hC hb⟩
theorem RD.of_V {W : World} {v : Value} {n : Nat} {b : Nat} {ok : Nat → Prop} (h : Kd.V (Kd.int .u64) 54 W b ok v (limbs n)) : RD W v n := by
  obtain ⟨A, c, e, hc, hF⟩ := h
  exact ⟨A, c, e, hc, hF W (fun _ _ _ => rfl)⟩
theorem RD.nil (W : World) : RD W (.slice none 0 0) 0 := by
  refine ⟨none, 0, by rw [limbs_zero]; rfl, by rw [limbs_zero]; exact Nat.le_refl _, ?_⟩
  rw [limbs_zero]
  exact Kd.C_of_reads (d := (0 : Int)) (h1 := fun _ => rfl) ⟨rfl, by simp, fun h => absurd h (by simp)⟩

def OpC (g : Nat) (f : Nat → Nat → Nat) (pre : Nat → Nat → Prop) : Prop := ∀ (W : World) (v0 v1 : Value) (a b : Nat), RD W v0 a → RD W v1 b → (limbs a).length + (limbs b).length ≤ 100000 → pre a b →
  Calls Tryz.prog g #[v0, v1] W fun e w' => ∃ v, e = .returned v ∧ RD w' v (f a b) ∧ Below W.heap.size W w'
theorem addC : OpC 38 (· + ·) (fun _ _ => True) := by
  rintro W v0 v1 a b ⟨A0, c0, rfl, hc0, h0⟩ ⟨A1, c1, rfl, hc1, h1⟩ hl _
  obtain ⟨k, hk⟩ := add_law a b (by omega) (by omega)
  refine (In.natural_number_add.calls k A0 c0 _ A1 c1 _ _ W h0 hc0 h1 hc1 hk).mono ?_
  rintro e w' ⟨v, rfl, hV, hb⟩
  exact ⟨v, rfl, RD.of_V hV, hb⟩
theorem subC : OpC 41 (· - ·) (fun a b => b ≤ a) := by
  rintro W v0 v1 a b ⟨A0, c0, rfl, hc0, h0⟩ ⟨A1, c1, rfl, hc1, h1⟩ hl hab
  obtain ⟨k, hk⟩ := sub_law a b hab (by omega)
  refine (In.natural_number_sub.calls k A0 c0 _ A1 c1 _ _ W h0 hc0 h1 hc1 hk).mono ?_
  rintro e w' ⟨v, rfl, hV, hb⟩
  exact ⟨v, rfl, RD.of_V hV, hb⟩
theorem mulC : OpC 43 (· * ·) (fun _ _ => True) := by
  rintro W v0 v1 a b ⟨A0, c0, rfl, hc0, h0⟩ ⟨A1, c1, rfl, hc1, h1⟩ hl _
  obtain ⟨k, hk⟩ := mul_law a b hl
  refine (In.natural_number_mul.calls k A0 c0 _ A1 c1 _ _ W h0 hc0 h1 hc1 hk).mono ?_
  rintro e w' ⟨v, rfl, hV, hb⟩
  exact ⟨v, rfl, RD.of_V hV, hb⟩
theorem cmpC (W : World) (v0 v1 : Value) (a b : Nat) (h0 : RD W v0 a) (h1 : RD W v1 b) (hl : (limbs a).length ≤ 100000) (hm : (limbs b).length ≤ 100000) :
    Calls Tryz.prog 33 #[v0, v1] W fun e w' => e = .returned (.int .i64 (cmpI (a : Int) (b : Int))) ∧ Below W.heap.size W w' := by
  obtain ⟨A0, c0, rfl, hc0, h0⟩ := h0
  obtain ⟨A1, c1, rfl, hc1, h1⟩ := h1
  refine natural_number_compare.calls A0 c0 _ A1 c1 _ _ W h0 hc0 h1 hc1 ?_
  unfold natural_number_compare.f
  rw [if_pos ⟨hl, hm⟩, cmp_law]

/-- A slice of one limb that has just been built. -/
theorem RD.one (W : World) (x : Nat) (h0 : 0 < x) (h1 : x < 1000000000) : RD (W.alloc (.cells #[.int .u64 (x : Int)] 54)) (.slice (some ⟨W.heap.size, 0, none⟩) 1 1) x := by
  have e : limbs x = [(x : Int)] := by rw [limbs_pos (by omega), show x / 1000000000 = 0 by omega, limbs_zero, show x % 1000000000 = x by omega]
  rw [RD, e]
  refine ⟨_, 1, rfl, Nat.le_refl _, Kd.C_of_reads (d := (0 : Int)) (h1 := fun _ => rfl) ⟨rfl, by simp, fun _ => ⟨_, rfl, fun j hj => ?_⟩⟩⟩
  obtain rfl : j = 0 := by simpa using hj
  rw [add_plain, World.cell?_alloc_new]
  rfl

set_option maxHeartbeats 4000000 in
set_option maxRecDepth 1000000 in
/-- sort.Search: the least index at which a closure that only makes memory says yes. -/
theorem searchC (g : Nat) (cb : Array Value) (n : Nat) (p : Nat → Bool) (w : World) (eg : ∀ args w, (callFunc g args).run Tryz.prog w = .ok (.enter g args) w) (hsz : n < 4611686018427387904)
    (hf : ∀ (W : World) (i : Nat), Below w.heap.size w W → i < n → Calls Tryz.prog g (#[.int .i64 i] ++ cb) W fun e w' => e = .returned (.bool (p i)) ∧ Below W.heap.size W w')
    (hmono : ∀ a b, a ≤ b → b < n → p a = true → p b = true) :
    Calls Tryz.prog 48 #[.int .i64 n, .func (.func g) #[] cb] w fun e w' => (∃ r : Nat, e = .returned (.int .i64 r) ∧ r ≤ n ∧ (∀ t, t < r → p t = false) ∧ (r < n → p r = true)) ∧ Below w.heap.size w w' := by
  have HF := Lib.hid hf
  have M := Lib.hid hmono
  clear hf hmono
  go_enter Tryz.func48, Tryz.ntmps48
  go_wp2
  go_loopg [5, 6] n (fun kx s5 s6 wr => ∃ (lo hi : Nat), s5 = .int .i64 lo ∧ s6 = .int .i64 hi ∧ lo ≤ hi ∧ hi ≤ n ∧ hi - lo ≤ kx ∧ Hid (Below w.heap.size w wr) ∧
    Hid ((∀ t, t < lo → p t = false) ∧ (∀ t, hi ≤ t → t < n → p t = true)))
  case atStart => exact ⟨0, n, rfl, rfl, Nat.zero_le _, Nat.le_refl _, by omega, Below.refl _ _, (⟨fun t ht => absurd ht (Nat.not_lt_zero _), fun t h1 h2 => by omega⟩ : (∀ t, t < 0 → p t = false) ∧ (∀ t, n ≤ t → t < n → p t = true))⟩
  case round =>
    obtain ⟨lo, hi, rfl, rfl, hlh, hin, hg, HB, I⟩ := hrel
    by_cases hlt : lo < hi
    · have hc := HF.out wr ((lo + hi) / 2) HB.out (by omega)
      rw [show (((lo + hi) / 2 : Nat) : Int) = ((lo : Int) + (hi : Int)) / 2 by omega] at hc
      cases hp : p ((lo + hi) / 2) <;> rw [hp] at hc
      · have HP := Lib.hid hp
        clear hp
        go_wp2_with (go_at_fn g; refine hc.mono ?_; rintro e w' ⟨rfl, hb⟩)
        go_roundg (hi - ((lo + hi) / 2 + 1))
        case measure => omega
        case rel =>
          have I2 : Hid ((∀ t, t < (lo + hi) / 2 + 1 → p t = false) ∧ (∀ t, hi ≤ t → t < n → p t = true)) := ⟨fun t ht => (by
            cases h : p t with
            | false => rfl
            | true => have := M.out t ((lo + hi) / 2) (by omega) (by omega) h; rw [HP.out] at this; cases this), I.out.2⟩
          exact ⟨(lo + hi) / 2 + 1, hi, by rw [show ((lo : Int) + (hi : Int)) / 2 + 1 = (((lo + hi) / 2 + 1 : Nat) : Int) by omega], rfl, by omega, hin, Nat.le_refl _, below_then HB.out HB.out.size hb, I2⟩
      · have HP := Lib.hid hp
        clear hp
        go_wp2_with (go_at_fn g; refine hc.mono ?_; rintro e w' ⟨rfl, hb⟩)
        go_roundg ((lo + hi) / 2 - lo)
        case measure => omega
        case rel =>
          have I2 : Hid ((∀ t, t < lo → p t = false) ∧ (∀ t, (lo + hi) / 2 ≤ t → t < n → p t = true)) := ⟨I.out.1, fun t ht htn => M.out ((lo + hi) / 2) t ht htn HP.out⟩
          exact ⟨lo, (lo + hi) / 2, rfl, by rw [show ((lo : Int) + (hi : Int)) / 2 = (((lo + hi) / 2 : Nat) : Int) by omega], by omega, by omega, Nat.le_refl _, below_then HB.out HB.out.size hb, I2⟩
    · obtain rfl : hi = lo := by omega
      have HI := Lib.hid I
      clear I
      go_wp2
      go_ret
      exact ⟨⟨hi, rfl, hin, HI.out.out.1, fun h => HI.out.out.2 hi (Nat.le_refl _) h⟩, HB.out⟩
end Go.Proofs.YtdojfnjgipeogaaGreatDoor
