/- The functions over texts, as one law each. -/
import Derived.Test.YtdojfnjgipeogaaGreatDoorNatD
import Derived.Test.YtdojfnjgipeogaaGreatDoorNatU
import Derived.Deep.RegionWith
namespace Go.Proofs.YtdojfnjgipeogaaGreatDoor
open Go.RowKit Go.Shelf Go.Proofs.YtdojfnjgipeogaaGreatDoorW.PrintWords Go.Proofs.YtdojfnjgipeogaaGreatDoorW.PrintMore NatB

theorem is_all (s : ByteArray) : In.natural_Is.f s = some (decide (isN s)) := by
  by_cases h : s.size ≤ 300
  · exact is_law s (by omega)
  · unfold In.natural_Is.f
    have hne : ¬ s.toList = [] := fun e => by
      have h1 : s.toList = s.data.toList := Lib.toList_data s
      have h2 : s.size = s.data.toList.length := Lib.size_eq s
      rw [← h1, e] at h2
      have h3 : s.size = 0 := h2
      omega
    rw [if_neg hne, if_neg (by omega)]
    congr 1
    symm
    rw [decide_eq_false_iff_not]
    exact fun h1 => h h1.2.1
theorem isC (s : ByteArray) (w : World) : Calls Tryz.prog 14 #[.string s] w fun e w' => e = .returned (.bool (decide (isN s))) ∧ Below w.heap.size w w' := In.natural_Is.calls s _ w (is_all s)
theorem parseC (s : ByteArray) (h : isN s) (w : World) : Calls Tryz.prog 24 #[.string s] w fun e w' => ∃ v, e = .returned v ∧ RD w' v (val s) ∧ Below w.heap.size w w' := by
  obtain ⟨k, hk⟩ := parse_law s h
  refine (In.natural_parse.calls k s _ w hk).mono ?_
  rintro e w' ⟨v, rfl, hV, hb⟩
  exact ⟨v, rfl, RD.of_V hV, hb⟩
theorem textC (w : World) (v : Value) (n : Nat) (h : RD w v n) (hl : (limbs n).length ≤ 1000) (hG : GOK w) :
    Calls Tryz.prog 26 #[v] w fun e w' => e = .returned (.tuple #[.string (lim n).1, .int .i64 (lim n).2]) ∧ Below w.heap.size w w' := by
  obtain ⟨A, c, rfl, hc, hC⟩ := h
  exact natural_number_text.calls A c (limbs n) _ _ w hC hc (text_law n hl) hG

set_option maxHeartbeats 4000000 in
set_option maxRecDepth 1000000 in
theorem gcdC : OpC 29 Nat.gcd (fun a b => (limbs a).length ≤ 10000 ∧ (limbs b).length ≤ 10000) := by
  intro w v0 v1 a b h0 h1 _ hl
  obtain ⟨A0, c0, rfl, hc0, h0⟩ := h0
  obtain ⟨A1, c1, rfl, hc1, h1⟩ := h1
  have H0 := Lib.hid (⟨A0, c0, rfl, hc0, h0⟩ : RD w (.slice A0 (limbs a).length c0) a)
  have H1 := Lib.hid (⟨A1, c1, rfl, hc1, h1⟩ : RD w (.slice A1 (limbs b).length c1) b)
  have HL := Lib.hid hl
  clear h0 h1 hc0 hc1 hl
  go_enter Tryz.func29, Tryz.ntmps29
  go_wp2
  go_loopg [0, 1] b (fun kx s0 s1 wr => ∃ (x y : Nat) (B0 : Option Addr) (d0 : Nat) (B1 : Option Addr) (d1 : Nat), s0 = .slice B0 (limbs x).length d0 ∧ s1 = .slice B1 (limbs y).length d1 ∧ y ≤ kx ∧
    Hid (RD wr (.slice B0 (limbs x).length d0) x ∧ RD wr (.slice B1 (limbs y).length d1) y ∧ Nat.gcd x y = Nat.gcd a b ∧ (limbs x).length ≤ 10000 ∧ (limbs y).length ≤ 10000 ∧ Below w.heap.size w wr))
  case atStart => exact ⟨a, b, A0, c0, A1, c1, rfl, rfl, Nat.le_refl _, ⟨H0.out, H1.out, rfl, HL.out.1, HL.out.2, Below.refl _ _⟩⟩
  case round =>
    obtain ⟨x, y, B0, d0, B1, d1, rfl, rfl, hk, I⟩ := hrel
    by_cases hy : y = 0
    · subst hy
      have hl0 : (limbs 0).length = 0 := by rw [limbs_zero]; rfl
      go_wp2
      go_ret
      obtain ⟨i1, i2, i3, _, _, i6⟩ := I.out
      rw [Nat.gcd_zero_right] at i3
      rw [← i3]
      exact ⟨_, rfl, i1, i6⟩
    · have hpos : (0 : Int) < ((limbs y).length : Int) := by rw [limbs_pos hy]; simp
      have hd := divC _ _ _ x y I.out.1 I.out.2.1 (by omega) I.out.2.2.2.1 I.out.2.2.2.2.1
      go_wp2_with (go_at_call 25; refine hd.mono ?_; rintro e w' ⟨q, r, rfl, hq, hr, hb⟩; obtain ⟨Ar, cr, rfl, _⟩ := id hr)
      go_roundg (x % y)
      case measure => have := Nat.mod_lt x (y := y) (by omega); omega
      case rel =>
        obtain ⟨i1, i2, i3, i4, i5, i6⟩ := I.out
        refine ⟨y, x % y, _, _, _, _, rfl, rfl, Nat.le_refl _, ⟨i2.below hb, hr, ?_, i5, Nat.le_trans (limbs_len_le (Nat.le_of_lt (Nat.mod_lt x (by omega)))) i5, below_then i6 i6.size hb⟩⟩
        rw [← i3, Nat.gcd_comm x y, Nat.gcd_rec y x, Nat.gcd_comm]

set_option maxHeartbeats 4000000 in
set_option maxRecDepth 1000000 in
theorem apply_no (a b : ByteArray) (op : Value) (w : World) (h : ¬ (isN a ∧ isN b)) :
    Calls Tryz.prog 28 #[.string a, .string b, op] w fun e w' => e = .returned (.tuple #[.string ⟨#[]⟩, .int .i64 1]) ∧ Below w.heap.size w w' := by
  by_cases ha : isN a
  · have hb : ¬ isN b := fun hb => h ⟨ha, hb⟩
    have da : decide (isN a) = true := decide_eq_true ha
    have db : decide (isN b) = false := decide_eq_false hb
    have HA := Lib.hid (isC a)
    have HB := Lib.hid (isC b)
    rw [da] at HA
    rw [db] at HB
    clear h ha hb da db
    go_enter Tryz.func28, Tryz.ntmps28
    go_wp2_with (first | (go_at_call_of 14 (Value.string a); refine (HA.out _).mono ?_; rintro e w1 ⟨rfl, hb1⟩) | (go_at_call_of 14 (Value.string b); refine (HB.out _).mono ?_; rintro e w2 ⟨rfl, hb2⟩))
    refine bodyPost_ret (results_tmp2 rfl _ _ _) rfl ⟨rfl, below_then hb1 hb1.size hb2⟩
  · have da : decide (isN a) = false := decide_eq_false ha
    have HA := Lib.hid (isC a)
    rw [da] at HA
    clear h ha da
    go_enter Tryz.func28, Tryz.ntmps28
    go_wp2_with (go_at_call 14; refine (HA.out _).mono ?_; rintro e w1 ⟨rfl, hb1⟩)
    refine bodyPost_ret (results_tmp2 rfl _ _ _) rfl ⟨rfl, hb1⟩

set_option maxHeartbeats 4000000 in
set_option maxRecDepth 1000000 in
theorem apply_yes (a b : ByteArray) (g : Nat) (eg : ∀ args w, (callFunc g args).run Tryz.prog w = .ok (.enter g args) w) (f : Nat → Nat → Nat) (pre : Nat → Nat → Prop) (hop : OpC g f pre) (w : World) (ha : isN a) (hb : isN b) (hpre : pre (val a) (val b)) (hl : (limbs (f (val a) (val b))).length ≤ 1000) (hG : GOK w) :
    Calls Tryz.prog 28 #[.string a, .string b, .func (.func g) #[] #[]] w fun e w' => e = .returned (.tuple #[.string (lim (f (val a) (val b))).1, .int .i64 (lim (f (val a) (val b))).2]) ∧ Below w.heap.size w w' := by
  have da : decide (isN a) = true := decide_eq_true ha
  have db : decide (isN b) = true := decide_eq_true hb
  have HA := Lib.hid (isC a)
  have HB := Lib.hid (isC b)
  rw [da] at HA
  rw [db] at HB
  have PA := Lib.hid (parseC a ha)
  have PB := Lib.hid (parseC b hb)
  have LA := Lib.hid (limbs_val a ha)
  have LB := Lib.hid (limbs_val b hb)
  have OP := Lib.hid hop
  have PR := Lib.hid hpre
  have HL := Lib.hid hl
  have HG := Lib.hid hG
  clear ha hb da db hop hpre hl hG
  go_enter Tryz.func28, Tryz.ntmps28
  go_wp2_with (first
    | (go_at_call_of 14 (Value.string a); refine (HA.out _).mono ?_; rintro e w1 ⟨rfl, hb1⟩)
    | (go_at_call_of 14 (Value.string b); refine (HB.out _).mono ?_; rintro e w2 ⟨rfl, hb2⟩)
    | (go_at_call_of 24 (Value.string a); refine (PA.out _).mono ?_; rintro e w3 ⟨v3, rfl, h3, hb3⟩)
    | (go_at_call_of 24 (Value.string b); refine (PB.out _).mono ?_; rintro e w4 ⟨v4, rfl, h4, hb4⟩)
    | (go_at_fn g; refine (OP.out _ _ _ _ _ (h3.below hb4) h4 (by have := LA.out; have := LB.out; omega) PR.out).mono ?_; rintro e w5 ⟨v5, rfl, h5, hb5⟩; have hbw := below_then (below_then (below_then (below_then hb1 hb1.size hb2) (Nat.le_trans hb1.size hb2.size) hb3) (by have := hb1.size; have := hb2.size; have := hb3.size; omega) hb4) (by have := hb1.size; have := hb2.size; have := hb3.size; have := hb4.size; omega) hb5)
    | (go_at_call 26; refine (textC _ _ _ h5 HL.out (HG.out.below hbw)).mono ?_; rintro e w6 ⟨rfl, hb6⟩))
  refine bodyPost_ret (results_tmp2 rfl _ _ _) rfl ⟨rfl, below_then hbw hbw.size hb6⟩
end Go.Proofs.YtdojfnjgipeogaaGreatDoor
