/- The functions over texts: what each answers, as a Lean function; and its contract. -/
import Derived.Test.YtdojfnjgipeogaaGreatDoorNatX
namespace Go.Proofs.YtdojfnjgipeogaaGreatDoor
open Go.RowKit Go.Shelf Go.Proofs.YtdojfnjgipeogaaGreatDoorW.PrintWords Go.Proofs.YtdojfnjgipeogaaGreatDoorW.PrintMore NatB

theorem bthen {A B C : World} (h : Below A.heap.size A B) (k : Below B.heap.size B C) : Below A.heap.size A C := below_then h h.size k
theorem parse10_law : ∀ (l : List UInt8) (acc : Nat), (∀ c ∈ l, dig c) → acc < 18446744073709551616 → Lib.parseUint10 acc l = if acc * 10 ^ l.length + dval l < 18446744073709551616 then .ok (acc * 10 ^ l.length + dval l) else .range
  | [], acc, _, ha => by simp [Lib.parseUint10, dval, ha]
  | c :: l, acc, hd, _ => by
    have e : dval (c :: l) = (c.toNat - 48) * 10 ^ l.length + dval l := by
      have := dval_append [c] l
      rwa [dval_one] at this
    have hc := hd c List.mem_cons_self
    unfold dig at hc
    have hs : acc * 10 ^ (c :: l).length + dval (c :: l) = (acc * 10 + (c.toNat - 48)) * 10 ^ l.length + dval l := by
      rw [e, List.length_cons, Nat.pow_succ, Nat.add_mul, Nat.mul_comm (10 ^ l.length) 10, Nat.mul_assoc]
      omega
    rw [hs]
    have hp : 0 < 10 ^ l.length := Nat.pow_pos (by omega)
    have h1 : acc * 10 + (c.toNat - 48) ≤ (acc * 10 + (c.toNat - 48)) * 10 ^ l.length := Nat.le_mul_of_pos_right _ hp
    rw [Lib.parseUint10, if_pos hc]
    by_cases h2 : 1844674407370955162 ≤ acc
    · rw [if_pos h2, if_neg (by omega)]
    · rw [if_neg h2]
      by_cases h3 : 18446744073709551616 ≤ acc * 10 + (c.toNat - 48)
      · rw [if_pos h3, if_neg (by omega)]
      · rw [if_neg h3]
        exact parse10_law l _ (fun x hx => hd x (List.mem_cons_of_mem _ hx)) (by omega)
theorem atoi_law (s : ByteArray) (h : isN s) : Lib.atoiAll s.data.toList = if val s ≤ 9223372036854775807 then .ok (val s : Int) else .range := by
  have hp := parse10_law s.data.toList 0 h.2.2.1 (by omega)
  rw [Nat.zero_mul, Nat.zero_add] at hp
  have hne : s.data.toList ≠ [] := fun e => h.1 (by rw [Lib.size_eq, e]; rfl)
  unfold val
  have hd := h.2.2.1
  generalize s.data.toList = l at *
  cases l with
  | nil => exact absurd rfl hne
  | cons c r =>
    have hc := hd c List.mem_cons_self
    unfold dig at hc
    unfold Lib.atoiAll
    dsimp only
    rw [if_neg (by omega)]
    unfold Lib.parseMag
    rw [if_neg hne, hp]
    by_cases h1 : dval (c :: r) < 18446744073709551616
    · rw [if_pos h1]
      dsimp only
      by_cases h2 : dval (c :: r) ≤ 9223372036854775807
      · rw [if_pos h2, if_neg (by omega), if_neg (by omega), if_neg (by omega)]
      · rw [if_neg h2, if_pos (by omega)]
    · rw [if_neg h1, if_neg (by omega)]

def bad : ByteArray × Int := (⟨#[]⟩, 1)
def natural_Int.f (s : ByteArray) : Option (Int × Int) := some (if isN s then (if val s ≤ 9223372036854775807 then ((val s : Int), 0) else (0, 10)) else (0, 1))
def natural_Compare.f (a b : ByteArray) : Option (Int × Int) := some (if isN a ∧ isN b then (cmpI (val a : Int) (val b : Int), 0) else (0, 1))
def natural_Add.f (a b : ByteArray) : Option (ByteArray × Int) := some (if isN a ∧ isN b then lim (val a + val b) else bad)
def natural_Sub.f (a b : ByteArray) : Option (ByteArray × Int) := some (if isN a ∧ isN b then (if val b ≤ val a then lim (val a - val b) else (⟨#[]⟩, 10)) else bad)
def natural_Mul.f (a b : ByteArray) : Option (ByteArray × Int) := some (if isN a ∧ isN b then lim (val a * val b) else bad)
def natural_Div.f (a b : ByteArray) : Option (ByteArray × ByteArray × Int) := some (if isN a ∧ isN b then (if val b = 0 then (⟨#[]⟩, ⟨#[]⟩, 15) else ((lim (val a / val b)).1, (lim (val a % val b)).1, 0)) else (⟨#[]⟩, ⟨#[]⟩, 1))
def natural_Gcd.f (a b : ByteArray) : Option (ByteArray × Int) := some (if isN a ∧ isN b then lim (Nat.gcd (val a) (val b)) else bad)

theorem val_pow (s : ByteArray) (h : isN s) (m : Nat) (hm : 300 ≤ m) : val s < 10 ^ m := Nat.lt_of_lt_of_le (val_lt s h) (Nat.pow_le_pow_right (by omega) (by have := h.2.1; omega))
theorem limbs_mul (a b : ByteArray) (ha : isN a) (hb : isN b) : (limbs (val a * val b)).length ≤ 1000 := by
  obtain ⟨m, hm⟩ : ∃ m, m = 300 := ⟨_, rfl⟩
  have h1 := val_pow a ha m (by omega)
  have h2 := val_pow b hb m (by omega)
  refine Nat.le_trans (limbs_pow m _ (Nat.lt_of_lt_of_le (m := 10 ^ (m + m)) ?_ (Nat.pow_le_pow_right (by omega) (by omega)))) (by omega)
  rw [Nat.pow_add]
  exact Nat.mul_lt_mul_of_lt_of_le h1 (Nat.le_of_lt h2) (Nat.lt_of_le_of_lt (Nat.zero_le _) h2)
theorem limbs_add (a b : ByteArray) (ha : isN a) (hb : isN b) : (limbs (val a + val b)).length ≤ 1000 := by
  obtain ⟨m, hm⟩ : ∃ m, m = 300 := ⟨_, rfl⟩
  have h1 := val_pow a ha m (by omega)
  have h2 := val_pow b hb m (by omega)
  refine Nat.le_trans (limbs_pow m _ (Nat.lt_of_lt_of_le (m := 10 ^ (m + 1)) ?_ (Nat.pow_le_pow_right (by omega) (by omega)))) (by omega)
  rw [Nat.pow_succ]
  omega
theorem limbs_le (n : Nat) (a : ByteArray) (ha : isN a) (h : n ≤ val a) : (limbs n).length ≤ 1000 := Nat.le_trans (limbs_len_le h) (Nat.le_trans (limbs_val a ha) (by omega))

set_option maxHeartbeats 4000000 in
set_option maxRecDepth 1000000 in
theorem natural_Add.calls (a b : ByteArray) (r1 : ByteArray) (r2 : Int) (w : World) (h : natural_Add.f a b = some (r1, r2)) (hG : GOK w) :
    Calls Tryz.prog 18 #[.string a, .string b] w fun e w' => e = .returned (.tuple #[.string r1, .int .i64 r2]) ∧ Below w.heap.size w w' := by
  have hc : ∀ w', GOK w' → Calls Tryz.prog 28 #[.string a, .string b, .func (.func 38) #[] #[]] w' fun e w'' => e = .returned (.tuple #[.string r1, .int .i64 r2]) ∧ Below w'.heap.size w' w'' := fun w' hG' => by
    unfold natural_Add.f at h
    rw [Option.some.injEq] at h
    split at h
    · rename_i hh
      have := apply_yes a b _ (enters_of Tryz.func38 (by kernel_rfl) rfl) _ _ addC w' hh.1 hh.2 trivial (limbs_add a b hh.1 hh.2) hG'
      rwa [h] at this
    · rename_i hh
      cases h
      exact apply_no a b _ w' hh
  have HC := Lib.hid hc
  clear hc h
  go_enter Tryz.func18, Tryz.ntmps18
  go_wp2_with (go_at_call 28; refine (HC.out _ hG).mono ?_; rintro e w1 ⟨rfl, hb1⟩)
  refine bodyPost_ret (results_tmp2 rfl _ _ _) rfl ⟨rfl, hb1⟩

set_option maxHeartbeats 4000000 in
set_option maxRecDepth 1000000 in
theorem natural_Mul.calls (a b : ByteArray) (r1 : ByteArray) (r2 : Int) (w : World) (h : natural_Mul.f a b = some (r1, r2)) (hG : GOK w) :
    Calls Tryz.prog 22 #[.string a, .string b] w fun e w' => e = .returned (.tuple #[.string r1, .int .i64 r2]) ∧ Below w.heap.size w w' := by
  have hc : ∀ w', GOK w' → Calls Tryz.prog 28 #[.string a, .string b, .func (.func 43) #[] #[]] w' fun e w'' => e = .returned (.tuple #[.string r1, .int .i64 r2]) ∧ Below w'.heap.size w' w'' := fun w' hG' => by
    unfold natural_Mul.f at h
    rw [Option.some.injEq] at h
    split at h
    · rename_i hh
      have := apply_yes a b _ (enters_of Tryz.func43 (by kernel_rfl) rfl) _ _ mulC w' hh.1 hh.2 trivial (limbs_mul a b hh.1 hh.2) hG'
      rwa [h] at this
    · rename_i hh
      cases h
      exact apply_no a b _ w' hh
  have HC := Lib.hid hc
  clear hc h
  go_enter Tryz.func22, Tryz.ntmps22
  go_wp2_with (go_at_call 28; refine (HC.out _ hG).mono ?_; rintro e w1 ⟨rfl, hb1⟩)
  refine bodyPost_ret (results_tmp2 rfl _ _ _) rfl ⟨rfl, hb1⟩

theorem gcd_le_of (a b : ByteArray) (ha : isN a) (hb : isN b) : (limbs (Nat.gcd (val a) (val b))).length ≤ 1000 := by
  rcases Nat.eq_zero_or_pos (val a) with h | h
  · rw [h, Nat.gcd_zero_left]; exact limbs_le _ b hb (Nat.le_refl _)
  · exact limbs_le _ a ha (Nat.gcd_le_left _ h)

set_option maxHeartbeats 4000000 in
set_option maxRecDepth 1000000 in
theorem natural_Gcd.calls (a b : ByteArray) (r1 : ByteArray) (r2 : Int) (w : World) (h : natural_Gcd.f a b = some (r1, r2)) (hG : GOK w) :
    Calls Tryz.prog 8 #[.string a, .string b] w fun e w' => e = .returned (.tuple #[.string r1, .int .i64 r2]) ∧ Below w.heap.size w w' := by
  have hc : ∀ w', GOK w' → Calls Tryz.prog 28 #[.string a, .string b, .func (.func 29) #[] #[]] w' fun e w'' => e = .returned (.tuple #[.string r1, .int .i64 r2]) ∧ Below w'.heap.size w' w'' := fun w' hG' => by
    unfold natural_Gcd.f at h
    rw [Option.some.injEq] at h
    split at h
    · rename_i hh
      have := apply_yes a b _ (enters_of Tryz.func29 (by kernel_rfl) rfl) _ _ gcdC w' hh.1 hh.2 ⟨Nat.le_trans (limbs_val a hh.1) (by omega), Nat.le_trans (limbs_val b hh.2) (by omega)⟩ (gcd_le_of a b hh.1 hh.2) hG'
      rwa [h] at this
    · rename_i hh
      cases h
      exact apply_no a b _ w' hh
  have HC := Lib.hid hc
  clear hc h
  go_enter Tryz.func8, Tryz.ntmps8
  go_wp2_with (go_at_call 28; refine (HC.out _ hG).mono ?_; rintro e w1 ⟨rfl, hb1⟩)
  refine bodyPost_ret (results_tmp2 rfl _ _ _) rfl ⟨rfl, hb1⟩

set_option maxHeartbeats 4000000 in
set_option maxRecDepth 1000000 in
theorem natural_Compare.calls (a b : ByteArray) (r1 : Int) (r2 : Int) (w : World) (h : natural_Compare.f a b = some (r1, r2)) :
    Calls Tryz.prog 12 #[.string a, .string b] w fun e w' => e = .returned (.tuple #[.int .i64 r1, .int .i64 r2]) ∧ Below w.heap.size w w' := by
  unfold natural_Compare.f at h
  rw [Option.some.injEq] at h
  have HA := Lib.hid (isC a)
  have HB := Lib.hid (isC b)
  by_cases ha : isN a
  · have PA := Lib.hid (parseC a ha)
    have LA := Lib.hid (limbs_val a ha)
    rw [decide_eq_true ha] at HA
    by_cases hb : isN b
    · have PB := Lib.hid (parseC b hb)
      have LB := Lib.hid (limbs_val b hb)
      rw [decide_eq_true hb] at HB
      rw [if_pos ⟨ha, hb⟩] at h
      cases h
      clear ha hb
      go_enter Tryz.func12, Tryz.ntmps12
      go_wp2_with (first
        | (go_at_call_of 14 (Value.string a); refine (HA.out _).mono ?_; rintro e w1 ⟨rfl, hb1⟩)
        | (go_at_call_of 14 (Value.string b); refine (HB.out _).mono ?_; rintro e w2 ⟨rfl, hb2⟩)
        | (go_at_call_of 24 (Value.string a); refine (PA.out _).mono ?_; rintro e w3 ⟨v3, rfl, h3, hb3⟩)
        | (go_at_call_of 24 (Value.string b); refine (PB.out _).mono ?_; rintro e w4 ⟨v4, rfl, h4, hb4⟩)
        | (go_at_call 33; refine (cmpC _ _ _ _ _ (h3.below hb4) h4 (by have := LA.out; omega) (by have := LB.out; omega)).mono ?_; rintro e w5 ⟨rfl, hb5⟩))
      refine bodyPost_ret (results_tmp2 rfl _ _ _) rfl ⟨rfl, bthen (bthen (bthen (bthen hb1 hb2) hb3) hb4) hb5⟩
    · rw [decide_eq_false hb] at HB
      rw [if_neg (fun hh => hb hh.2)] at h
      cases h
      clear ha hb
      go_enter Tryz.func12, Tryz.ntmps12
      go_wp2_with (first | (go_at_call_of 14 (Value.string a); refine (HA.out _).mono ?_; rintro e w1 ⟨rfl, hb1⟩) | (go_at_call_of 14 (Value.string b); refine (HB.out _).mono ?_; rintro e w2 ⟨rfl, hb2⟩))
      refine bodyPost_ret (results_tmp2 rfl _ _ _) rfl ⟨rfl, below_then hb1 hb1.size hb2⟩
  · rw [decide_eq_false ha] at HA
    rw [if_neg (fun hh => ha hh.1)] at h
    cases h
    clear ha
    go_enter Tryz.func12, Tryz.ntmps12
    go_wp2_with (go_at_call 14; refine (HA.out _).mono ?_; rintro e w1 ⟨rfl, hb1⟩)
    refine bodyPost_ret (results_tmp2 rfl _ _ _) rfl ⟨rfl, hb1⟩

set_option maxHeartbeats 4000000 in
set_option maxRecDepth 1000000 in
theorem natural_Sub.calls (a b : ByteArray) (r1 : ByteArray) (r2 : Int) (w : World) (h : natural_Sub.f a b = some (r1, r2)) (hG : GOK w) :
    Calls Tryz.prog 20 #[.string a, .string b] w fun e w' => e = .returned (.tuple #[.string r1, .int .i64 r2]) ∧ Below w.heap.size w w' := by
  unfold natural_Sub.f at h
  rw [Option.some.injEq] at h
  by_cases hh : isN a ∧ isN b
  · rw [if_pos hh] at h
    have HC := Lib.hid (fun w' => natural_Compare.calls a b (cmpI (val a : Int) (val b : Int)) 0 w' (by unfold natural_Compare.f; rw [if_pos hh]))
    by_cases hle : val b ≤ val a
    · rw [if_pos hle] at h
      have HAP := Lib.hid (fun w' hG' => apply_yes a b _ (enters_of Tryz.func41 (by kernel_rfl) rfl) _ _ subC w' hh.1 hh.2 hle (limbs_le _ a hh.1 (Nat.sub_le _ _)) hG')
      rw [h] at HAP
      have hn : decide (cmpI (val a : Int) (val b : Int) < 0) = false := by rw [cmpI_neg]; exact decide_eq_false (by omega)
      have HN := Lib.hid hn
      clear h hh hle hn
      go_enter Tryz.func20, Tryz.ntmps20
      go_wp2_with (first
        | (go_at_call 12; refine (HC.out _).mono ?_; rintro e w1 ⟨rfl, hb1⟩; have hn1 := HN.out)
        | (go_at_call 28; refine (HAP.out _ (hG.below hb1)).mono ?_; rintro e w2 ⟨rfl, hb2⟩))
      refine bodyPost_ret (results_tmp2 rfl _ _ _) rfl ⟨rfl, bthen hb1 hb2⟩
    · rw [if_neg hle] at h
      cases h
      have hn : decide (cmpI (val a : Int) (val b : Int) < 0) = true := by rw [cmpI_neg]; exact decide_eq_true (by omega)
      have HN := Lib.hid hn
      clear hh hle hn
      go_enter Tryz.func20, Tryz.ntmps20
      go_wp2_with (go_at_call 12; refine (HC.out _).mono ?_; rintro e w1 ⟨rfl, hb1⟩; have hn1 := HN.out)
      refine bodyPost_ret (results_tmp2 rfl _ _ _) rfl ⟨rfl, hb1⟩
  · rw [if_neg hh] at h
    cases h
    have HC := Lib.hid (fun w' => natural_Compare.calls a b 0 1 w' (by unfold natural_Compare.f; rw [if_neg hh]))
    have HAP := Lib.hid (fun w' => apply_no a b (.func (.func 41) #[] #[]) w' hh)
    clear hh
    go_enter Tryz.func20, Tryz.ntmps20
    go_wp2_with (first
      | (go_at_call 12; refine (HC.out _).mono ?_; rintro e w1 ⟨rfl, hb1⟩)
      | (go_at_call 28; refine (HAP.out _).mono ?_; rintro e w2 ⟨rfl, hb2⟩))
    refine bodyPost_ret (results_tmp2 rfl _ _ _) rfl ⟨rfl, bthen hb1 hb2⟩

theorem zero_val (b : ByteArray) (hb : isN b) : (b = (⟨#[48]⟩ : ByteArray)) ↔ val b = 0 := by
  constructor
  · rintro rfl; rfl
  · intro h
    have h1 := dec_val b hb
    rw [h] at h1
    rw [← h1]
    unfold dec
    rw [dec_small (by omega)]
    rfl

set_option maxHeartbeats 4000000 in
set_option maxRecDepth 1000000 in
theorem natural_Div.calls (a b : ByteArray) (r1 r2 : ByteArray) (r3 : Int) (w : World) (h : natural_Div.f a b = some (r1, r2, r3)) (hG : GOK w) :
    Calls Tryz.prog 6 #[.string a, .string b] w fun e w' => e = .returned (.tuple #[.string r1, .string r2, .int .i64 r3]) ∧ Below w.heap.size w w' := by
  unfold natural_Div.f at h
  rw [Option.some.injEq] at h
  have HA := Lib.hid (isC a)
  have HB := Lib.hid (isC b)
  by_cases ha : isN a
  · have PA := Lib.hid (parseC a ha)
    have LA := Lib.hid (limbs_val a ha)
    rw [decide_eq_true ha] at HA
    by_cases hb : isN b
    · have PB := Lib.hid (parseC b hb)
      have LB := Lib.hid (limbs_val b hb)
      rw [decide_eq_true hb] at HB
      rw [if_pos ⟨ha, hb⟩] at h
      by_cases hz : val b = 0
      · rw [if_pos hz] at h
        cases h
        obtain rfl := (zero_val b hb).2 hz
        clear ha hb hz PB LB
        go_enter Tryz.func6, Tryz.ntmps6
        go_wp2_with (first
          | (go_at_call_of 14 (Value.string a); refine (HA.out _).mono ?_; rintro e w1 ⟨rfl, hb1⟩)
          | (go_at_call 14; refine (HB.out _).mono ?_; rintro e w2 ⟨rfl, hb2⟩))
        refine bodyPost_ret (by simp [results, Tryz.f6, go_sem]) rfl ⟨rfl, bthen hb1 hb2⟩
      · rw [if_neg hz] at h
        have hbe : (b.toList == ([48] : List UInt8)) = false := by
          rw [beq_eq_false_iff_ne]
          intro e
          rw [Lib.toList_data] at e
          refine hz ((zero_val b hb).1 ?_)
          obtain ⟨⟨l⟩⟩ := b
          rw [show l = [48] from e]
        have LQ := Lib.hid (limbs_le (val a / val b) a ha (Nat.div_le_self _ _))
        have LR := Lib.hid (limbs_le (val a % val b) a ha (Nat.mod_le _ _))
        cases h
        have HZ := Lib.hid hz
        clear ha hb hz
        go_enter Tryz.func6, Tryz.ntmps6
        go_wp2_with (first
          | (go_at_call_of 14 (Value.string a); refine (HA.out _).mono ?_; rintro e w1 ⟨rfl, hb1⟩)
          | (go_at_call_of 14 (Value.string b); refine (HB.out _).mono ?_; rintro e w2 ⟨rfl, hb2⟩)
          | (go_at_call_of 24 (Value.string a); refine (PA.out _).mono ?_; rintro e w3 ⟨v3, rfl, h3, hb3⟩)
          | (go_at_call_of 24 (Value.string b); refine (PB.out _).mono ?_; rintro e w4 ⟨v4, rfl, h4, hb4⟩; have h3 := h3.below hb4)
          | (go_at_call 25; refine (divC _ _ _ _ _ h3 h4 (Nat.pos_of_ne_zero HZ.out) (by have := LA.out; omega) (by have := LB.out; omega)).mono ?_; rintro e w5 ⟨q, r, rfl, hq, hr, hb5⟩; have hbw := bthen (bthen (bthen (bthen hb1 hb2) hb3) hb4) hb5)
          | (go_at_call_of 26 q; refine (textC _ _ _ hq LQ.out (hG.below hbw)).mono ?_; rintro e w6 ⟨rfl, hb6⟩; have hr := hr.below hb6; have hbw := bthen hbw hb6)
          | (go_at_call_of 26 r; refine (textC _ _ _ hr LR.out (hG.below hbw)).mono ?_; rintro e w7 ⟨rfl, hb7⟩; have hbw := bthen hbw hb7))
        refine bodyPost_ret (by simp [results, Tryz.f6, go_sem]) rfl ⟨rfl, hbw⟩
    · rw [decide_eq_false hb] at HB
      rw [if_neg (fun hh => hb hh.2)] at h
      cases h
      clear ha hb
      go_enter Tryz.func6, Tryz.ntmps6
      go_wp2_with (first | (go_at_call_of 14 (Value.string a); refine (HA.out _).mono ?_; rintro e w1 ⟨rfl, hb1⟩) | (go_at_call_of 14 (Value.string b); refine (HB.out _).mono ?_; rintro e w2 ⟨rfl, hb2⟩))
      refine bodyPost_ret (by simp [results, Tryz.f6, go_sem]) rfl ⟨rfl, bthen hb1 hb2⟩
  · rw [decide_eq_false ha] at HA
    rw [if_neg (fun hh => ha hh.1)] at h
    cases h
    clear ha
    go_enter Tryz.func6, Tryz.ntmps6
    go_wp2_with (go_at_call 14; refine (HA.out _).mono ?_; rintro e w1 ⟨rfl, hb1⟩)
    refine bodyPost_ret (by simp [results, Tryz.f6, go_sem]) rfl ⟨rfl, hb1⟩

set_option maxHeartbeats 4000000 in
set_option maxRecDepth 1000000 in
theorem natural_Int.calls (s : ByteArray) (r1 r2 : Int) (w : World) (h : natural_Int.f s = some (r1, r2)) (hG : GOK w) :
    Calls Tryz.prog 10 #[.string s] w fun e w' => e = .returned (.tuple #[.int .i64 r1, .int .i64 r2]) ∧ Below w.heap.size w w' := by
  unfold natural_Int.f at h
  rw [Option.some.injEq] at h
  have HA := Lib.hid (isC s)
  by_cases ha : isN s
  · rw [decide_eq_true ha] at HA
    rw [if_pos ha] at h
    have hat := atoi_law s ha
    by_cases hv : val s ≤ 9223372036854775807
    · rw [if_pos hv] at h hat
      cases h
      have HAT : Hid (∀ w', Calls Tryz.prog 31 #[.string s] w' fun e w'' => e = .returned (.tuple #[.int .i64 (val s : Int), .nilIface]) ∧ Below w'.heap.size w' w'') := fun w' => (Tryz.strconv_Atoi_ok s (by have := ha.2.1; omega) _ hat w').mono (by
        rintro e w'' ⟨rfl, rfl | ⟨t, rfl⟩⟩
        · exact ⟨rfl, Below.refl _ _⟩
        · exact ⟨rfl, bytes_below (Below.refl _ _) (Nat.le_refl _) _ _⟩)
      clear ha hat hv
      go_enter Tryz.func10, Tryz.ntmps10
      go_wp2_with (first
        | (go_at_call 14; refine (HA.out _).mono ?_; rintro e w1 ⟨rfl, hb1⟩)
        | (go_at_call 31; refine (HAT.out _).mono ?_; rintro e w2 ⟨rfl, hb2⟩))
      have hb3 : Below w.heap.size w _ := bthen hb1 hb2
      refine bodyPost_ret (results_tmp2 rfl _ _ _) rfl ⟨rfl, hb3⟩
    · rw [if_neg hv] at h hat
      cases h
      have hsz : s.size ≤ 281474976710656 := by have := ha.2.1; omega
      have HAT := Lib.hid hat
      clear ha hat hv
      go_enter Tryz.func10, Tryz.ntmps10
      go_wp2_with (first
        | (go_at_call 14; refine (HA.out _).mono ?_; rintro e w1 ⟨rfl, hb1⟩; obtain ⟨tp, p, hvar⟩ := (hG.below hb1).rng)
        | (go_at_call 31; refine (Tryz.strconv_Atoi_range_var s hsz HAT.out tp p _ hvar).mono ?_; rintro e w2 ⟨N, rfl, _, _, hb2⟩))
      refine bodyPost_ret (results_tmp2 rfl _ _ _) rfl ⟨rfl, bthen hb1 hb2⟩
  · rw [decide_eq_false ha] at HA
    rw [if_neg ha] at h
    cases h
    clear ha
    go_enter Tryz.func10, Tryz.ntmps10
    go_wp2_with (go_at_call 14; refine (HA.out _).mono ?_; rintro e w1 ⟨rfl, hb1⟩)
    refine bodyPost_ret (results_tmp2 rfl _ _ _) rfl ⟨rfl, hb1⟩

def natural_Is.f (s : ByteArray) : Option Bool := some (decide (isN s))
theorem natural_Is.calls (a0 : ByteArray) (r : Bool) (w : World) (h : natural_Is.f a0 = some r) :
    Calls Tryz.prog 14 #[.string a0] w fun e w' => e = .returned (.bool r) ∧ Below w.heap.size w w' := by
  cases h
  exact isC a0 w
def natural_Of.f (n : Int) : Option ByteArray := if -9223372036854775808 ≤ n ∧ n ≤ 9223372036854775807 then some (if n < 0 then ⟨#[]⟩ else dec n.toNat) else none
theorem of_law (n : Int) (h0 : -9223372036854775808 ≤ n) (h1 : n ≤ 9223372036854775807) : In.natural_Of.f n = some (if n < 0 then ⟨#[]⟩ else dec n.toNat) := by
  unfold In.natural_Of.f
  by_cases h : n < 0
  · rw [if_pos h, if_pos h]
  · rw [if_neg h, if_neg h]
    unfold strconv_Itoa.f
    rw [if_pos ⟨h0, h1⟩]
    have e : Lib.itoa n = Lib.decDigits n.toNat := by
      unfold Lib.itoa
      rw [if_neg h]
    rw [Option.bind_some, e]
    rfl
theorem natural_Of.calls (a0 : Int) (r : ByteArray) (w : World) (h : natural_Of.f a0 = some r) (hG : GOK w) :
    Calls Tryz.prog 16 #[.int .i64 a0] w fun e w' => e = .returned (.string r) ∧ Below w.heap.size w w' := by
  unfold natural_Of.f at h
  split at h
  · rename_i hh
    cases h
    exact In.natural_Of.calls a0 _ w (of_law a0 hh.1 hh.2) hG
  · cases h
end Go.Proofs.YtdojfnjgipeogaaGreatDoor
