/- Decimal texts: their values, their form; the limbs of a text and the text of limbs. -/
import Derived.Test.YtdojfnjgipeogaaGreatDoorNatM
import Derived.Test.YtdojfnjgipeogaaGreatDoorNatT
namespace Go.Proofs.YtdojfnjgipeogaaGreatDoor
open Go.RowKit Go.Proofs.YtdojfnjgipeogaaGreatDoorW.PrintWords Go.Proofs.YtdojfnjgipeogaaGreatDoorW.PrintMore In NatB

/-- The value of a row of decimal digits. -/
def dval (l : List UInt8) : Nat := l.foldl (fun n c => n * 10 + (c.toNat - 48)) 0
def dig (c : UInt8) : Prop := 48 ≤ c.toNat ∧ c.toNat ≤ 57
instance (c : UInt8) : Decidable (dig c) := inferInstanceAs (Decidable (_ ∧ _))
theorem dval_acc (l : List UInt8) : ∀ a, l.foldl (fun n c => n * 10 + (c.toNat - 48)) a = a * 10 ^ l.length + dval l := by
  induction l with
  | nil => intro a; simp [dval]
  | cons c l ih =>
    intro a
    have h0 := ih (0 * 10 + (c.toNat - 48))
    show l.foldl _ (a * 10 + (c.toNat - 48)) = a * 10 ^ (l.length + 1) + l.foldl _ (0 * 10 + (c.toNat - 48))
    rw [ih, h0, Nat.pow_succ, Nat.add_mul, Nat.zero_mul, Nat.zero_add, Nat.mul_comm (10 ^ l.length) 10, Nat.mul_assoc]
    omega
theorem dval_append (l m : List UInt8) : dval (l ++ m) = dval l * 10 ^ m.length + dval m := by
  unfold dval
  rw [List.foldl_append]
  exact dval_acc m _
theorem dval_one (c : UInt8) : dval [c] = c.toNat - 48 := by simp [dval]
theorem dval_lt {l : List UInt8} (h : ∀ c ∈ l, dig c) : dval l < 10 ^ l.length := by
  induction l with
  | nil => simp [dval]
  | cons c l ih =>
    have e : dval (c :: l) = (c.toNat - 48) * 10 ^ l.length + dval l := by
      have := dval_append [c] l
      rwa [dval_one] at this
    have hc := h c List.mem_cons_self
    have := ih (fun x hx => h x (List.mem_cons_of_mem _ hx))
    rw [e, List.length_cons, Nat.pow_succ]
    unfold dig at hc
    have h2 : (c.toNat - 48) * 10 ^ l.length ≤ 9 * 10 ^ l.length := Nat.mul_le_mul_right _ (by omega)
    omega

/-- A natural number, as the document has it. -/
def isN (s : ByteArray) : Prop := s.size ≠ 0 ∧ s.size ≤ 300 ∧ (∀ c ∈ s.data.toList, dig c) ∧ (s.size = 1 ∨ s.data.toList.head? ≠ some 48)
instance (s : ByteArray) : Decidable (isN s) := inferInstanceAs (Decidable (_ ∧ _ ∧ _ ∧ _))

theorem digits_contains (c : UInt8) : digitsC.data.toList.contains c = true ↔ dig c := by
  rw [List.contains_iff_mem]
  show c ∈ [48, 49, 50, 51, 52, 53, 54, 55, 56, 57] ↔ _
  have key : ∀ n : Nat, n < 256 → (c = UInt8.ofNat n ↔ c.toNat = n) := fun n hn => by
    constructor
    · rintro rfl; simp; omega
    · intro h; apply UInt8.toNat_inj.1; rw [h]; simp; omega
  simp only [List.mem_cons, List.not_mem_nil, or_false]
  have k0 := key 48 (by omega); have k1 := key 49 (by omega); have k2 := key 50 (by omega); have k3 := key 51 (by omega); have k4 := key 52 (by omega)
  have k5 := key 53 (by omega); have k6 := key 54 (by omega); have k7 := key 55 (by omega); have k8 := key 56 (by omega); have k9 := key 57 (by omega)
  unfold dig
  constructor
  · rintro (h | h | h | h | h | h | h | h | h | h) <;> subst h <;> decide
  · intro h
    rcases (show c.toNat = 48 ∨ c.toNat = 49 ∨ c.toNat = 50 ∨ c.toNat = 51 ∨ c.toNat = 52 ∨ c.toNat = 53 ∨ c.toNat = 54 ∨ c.toNat = 55 ∨ c.toNat = 56 ∨ c.toNat = 57 by omega) with h | h | h | h | h | h | h | h | h | h
    · exact .inl (k0.2 h)
    · exact .inr (.inl (k1.2 h))
    · exact .inr (.inr (.inl (k2.2 h)))
    · exact .inr (.inr (.inr (.inl (k3.2 h))))
    · exact .inr (.inr (.inr (.inr (.inl (k4.2 h)))))
    · exact .inr (.inr (.inr (.inr (.inr (.inl (k5.2 h))))))
    · exact .inr (.inr (.inr (.inr (.inr (.inr (.inl (k6.2 h)))))))
    · exact .inr (.inr (.inr (.inr (.inr (.inr (.inr (.inl (k7.2 h))))))))
    · exact .inr (.inr (.inr (.inr (.inr (.inr (.inr (.inr (.inl (k8.2 h)))))))))
    · exact .inr (.inr (.inr (.inr (.inr (.inr (.inr (.inr (.inr (k9.2 h)))))))))
theorem dropWhile_nil {α : Type} (p : α → Bool) : ∀ l : List α, l.dropWhile p = [] ↔ ∀ x ∈ l, p x = true
  | [] => by simp
  | a :: l => by
    rw [List.dropWhile_cons]
    split
    · rename_i h
      rw [dropWhile_nil p l]
      constructor
      · intro h2 x hx
        rcases List.mem_cons.1 hx with rfl | hx
        · exact h
        · exact h2 x hx
      · exact fun h2 x hx => h2 x (List.mem_cons_of_mem _ hx)
    · rename_i h
      constructor
      · intro h2; cases h2
      · intro h2; exact absurd (h2 a List.mem_cons_self) h
theorem trimS_nil (l cs : List UInt8) : Lib.trimS l cs = [] ↔ ∀ c ∈ l, cs.contains c = true := by
  unfold Lib.trimS Lib.trimLeftS Lib.trimRightS
  rw [dropWhile_nil]
  constructor
  · intro h c hc
    rcases Bool.eq_false_or_eq_true (cs.contains c) with h1 | h1
    · exact h1
    · exfalso
      have hne : l.reverse.dropWhile (cs.contains ·) ≠ [] := by
        intro e
        rw [dropWhile_nil] at e
        have := e c (by simpa using hc)
        rw [h1] at this
        cases this
      have h2 := List.head_dropWhile_not (p := (cs.contains ·)) (l := l.reverse) hne
      have h3 := h ((l.reverse.dropWhile (cs.contains ·)).head hne) (by simp [List.head_mem])
      rw [h2] at h3
      cases h3
  · intro h c hc
    rw [List.mem_reverse] at hc
    exact h c (List.mem_reverse.1 ((List.dropWhile_sublist _).mem hc))
theorem is_law (s : ByteArray) (hs : s.size ≤ 140737488355328) : natural_Is.f s = some (decide (isN s)) := by
  have hdl : s.toList = s.data.toList := Lib.toList_data s
  have hsz : s.size = s.data.toList.length := Lib.size_eq s
  unfold natural_Is.f
  by_cases h0 : s.toList = []
  · rw [if_pos h0]
    have : s.size = 0 := by rw [hsz, ← hdl, h0]; rfl
    congr 1
    symm
    rw [decide_eq_false_iff_not]
    exact fun h => h.1 this
  · have h0' : s.size ≠ 0 := fun e => h0 (by rw [hdl]; exact List.eq_nil_of_length_eq_zero (by omega))
    rw [if_neg h0]
    by_cases h1 : s.size ≤ 300
    · rw [if_pos (by omega)]
      unfold strings_Trim.f
      rw [if_pos (show (⟨#[48, 49, 50, 51, 52, 53, 54, 55, 56, 57]⟩ : ByteArray) = digitsC from rfl), if_pos (by omega)]
      simp only [Option.bind_some]
      have ht : (⟨(Lib.trimS s.data.toList (⟨#[48, 49, 50, 51, 52, 53, 54, 55, 56, 57]⟩ : ByteArray).data.toList).toArray⟩ : ByteArray).toList = [] ↔ ∀ c ∈ s.data.toList, dig c := by
        rw [Lib.toList_data]
        show Lib.trimS s.data.toList digitsC.data.toList = [] ↔ _
        rw [trimS_nil]
        exact ⟨fun h c hc => (digits_contains c).1 (h c hc), fun h c hc => (digits_contains c).2 (h c hc)⟩
      by_cases h2 : ∀ c ∈ s.data.toList, dig c
      · rw [if_pos (ht.2 h2)]
        by_cases h3 : s.size = 1
        · rw [if_pos (by omega)]
          congr 1
          symm
          rw [decide_eq_true_iff]
          exact ⟨by omega, by omega, h2, .inl h3⟩
        · rw [if_neg (by omega), if_pos (by omega)]
          congr 1
          have hb : bt s 0 = ((s.data.toList[0]'(by omega)).toNat : Int) := by
            unfold bt
            rw [dif_pos (by simp; omega)]
            rfl
          have hh : s.data.toList.head? = some (s.data.toList[0]'(by omega)) := by
            rw [List.head?_eq_getElem?, List.getElem?_eq_getElem (by omega)]
          rw [hb]
          by_cases h4 : (s.data.toList[0]'(by omega)).toNat = 48
          · have e1 : (((s.data.toList[0]'(by omega)).toNat : Int) != 48) = false := by rw [bne_eq_false_iff_eq]; omega
            rw [e1]
            symm
            rw [decide_eq_false_iff_not]
            rintro ⟨_, _, _, h5 | h5⟩
            · exact h3 h5
            · exact h5 (by rw [hh]; exact congrArg some (UInt8.toNat_inj.1 h4))
          · have e1 : (((s.data.toList[0]'(by omega)).toNat : Int) != 48) = true := by rw [bne_iff_ne]; omega
            rw [e1]
            symm
            rw [decide_eq_true_iff]
            refine ⟨h0', h1, h2, .inr fun h5 => h4 ?_⟩
            rw [hh] at h5
            rw [Option.some.inj h5]
            rfl
      · rw [if_neg (fun h => h2 (ht.1 h))]
        congr 1
        symm
        rw [decide_eq_false_iff_not]
        exact fun h => h2 h.2.2.1
    · rw [if_neg (by omega)]
      congr 1
      symm
      rw [decide_eq_false_iff_not]
      exact fun h => h1 h.2.1

theorem parseUintM_law : ∀ (l : List UInt8) (acc : Nat), (∀ c ∈ l, dig c) → acc * 10 ^ l.length + dval l < 10 ^ 18 → Lib.parseUintM (2 ^ 64 - 1) acc l = .ok (acc * 10 ^ l.length + dval l)
  | [], acc, _, _ => by simp [Lib.parseUintM, dval]
  | c :: l, acc, hd, hb => by
    have e : dval (c :: l) = (c.toNat - 48) * 10 ^ l.length + dval l := by
      have := dval_append [c] l
      rwa [dval_one] at this
    have hc := hd c List.mem_cons_self
    unfold dig at hc
    have hs : acc * 10 ^ (c :: l).length + dval (c :: l) = (acc * 10 + (c.toNat - 48)) * 10 ^ l.length + dval l := by
      rw [e, List.length_cons, Nat.pow_succ, Nat.add_mul, Nat.mul_comm (10 ^ l.length) 10, Nat.mul_assoc]
      omega
    rw [hs] at hb ⊢
    have hp : 0 < 10 ^ l.length := Nat.pow_pos (by omega)
    have h1 : acc * 10 + (c.toNat - 48) ≤ (acc * 10 + (c.toNat - 48)) * 10 ^ l.length := Nat.le_mul_of_pos_right _ hp
    rw [Lib.parseUintM, if_pos hc, if_neg (by omega), if_neg (by omega)]
    exact parseUintM_law l _ (fun x hx => hd x (List.mem_cons_of_mem _ hx)) hb
theorem extract_list (s : ByteArray) (a b : Nat) : (s.extract a b).data.toList = (s.data.toList.drop a).take (b - a) := by
  rw [← Lib.toList_data]; exact Lib.extract_toList s a b

theorem parse_step (P B u D V N : Nat) (h : N + P * (D * B + u) = V) : N + P * u + P * B * D = V := by
  rw [← h, Nat.mul_add, Nat.mul_comm D B, Nat.mul_assoc]
  omega
theorem parse_law0 (s : ByteArray) (hd : ∀ c ∈ s.data.toList, dig c) (hs : s.size ≤ 300) (d : Nat) : ∀ (k i : Nat) (n : List Int) (e : Int), e.toNat = d → e ≤ s.size → -9 ≤ e → n.length = i → vl n → i + d ≤ 400 → 1000 + d < k →
    numL n + 1000000000 ^ i * dval (s.data.toList.take d) = dval s.data.toList → natural_parse.l0 k s n e = some (limbs (dval s.data.toList)) := by
  induction d using Nat.strongRecOn with
  | _ d ih =>
    intro k i n e he hes he9 hn hv hi hk hV
    obtain ⟨k, rfl⟩ : ∃ m, k = m + 1 := ⟨k - 1, by omega⟩
    have hsz : s.size = s.data.toList.length := Lib.size_eq s
    simp only [natural_parse.l0]
    by_cases h0 : e > 0
    · have hw : wrap64 (e - 9) = e - 9 := w64 (by omega) (by omega)
      have hmx : mx 0 (e - 9) = ((d - 9 : Nat) : Int) := by unfold mx; split <;> omega
      rw [hw, hmx]
      clear hw hmx
      have HV := Lib.hid hV
      clear hV
      rw [if_pos h0, if_pos (by omega), if_pos (by omega), if_pos (by omega), he, Int.toNat_natCast]
      have hch : (s.extract (d - 9) d).data.toList = (s.data.toList.drop (d - 9)).take (d - (d - 9)) := extract_list s _ _
      have hsplit : s.data.toList.take d = s.data.toList.take (d - 9) ++ (s.extract (d - 9) d).data.toList := by
        rw [hch, ← List.take_add, show d - 9 + (d - (d - 9)) = d by omega]
      have hlen : (s.extract (d - 9) d).data.toList.length = d - (d - 9) := by
        rw [hch, List.length_take, List.length_drop]; omega
      have hdc : ∀ c ∈ (s.extract (d - 9) d).data.toList, dig c := fun c hc => hd c (by
        rw [hch] at hc
        exact List.mem_of_mem_drop (List.mem_of_mem_take hc))
      have hlt := dval_lt hdc
      have hlt9 : dval (s.extract (d - 9) d).data.toList < 1000000000 := Nat.lt_of_lt_of_le hlt (by
        rw [hlen]
        exact Nat.pow_le_pow_right (n := 10) (by omega) (show d - (d - 9) ≤ 9 by omega))
      have hpu : strconv_ParseUint.f (s.extract (d - 9) d) 10 64 = some (((dval (s.extract (d - 9) d).data.toList : Nat) : Int), none) := by
        unfold strconv_ParseUint.f
        have hsz2 : (s.extract (d - 9) d).size ≤ 1000 := by rw [Lib.size_eq, hlen]; omega
        rw [if_pos ⟨rfl, rfl, hsz2⟩]
        have : Lib.parseUintB 64 (s.extract (d - 9) d).data.toList = .ok (dval (s.extract (d - 9) d).data.toList) := by
          unfold Lib.parseUintB
          rw [if_neg (by intro e'; rw [e'] at hlen; simp at hlen; omega)]
          have := parseUintM_law _ 0 hdc (by rw [Nat.zero_mul, Nat.zero_add]; exact Nat.lt_of_lt_of_le hlt9 (by decide))
          rw [Nat.zero_mul, Nat.zero_add] at this
          exact this
        rw [this]
      rw [hpu]
      simp only [Option.bind_some]
      rw [if_pos (by omega)]
      refine ih (e - 9).toNat (by omega) k (i + 1) _ _ rfl (by omega) (by omega) (by simp [hn]) (vl_append hv (vl_one (by omega) (by omega))) (by omega) (by omega) ?_
      have hV := HV.out
      rw [hsplit, dval_append, hlen] at hV
      rw [numL_append, hn, Nat.pow_succ]
      have hnu : numL [((dval (s.extract (d - 9) d).data.toList : Nat) : Int)] = dval (s.extract (d - 9) d).data.toList := by simp [numL]
      rw [hnu, show (e - 9).toNat = d - 9 by omega]
      by_cases h9 : 9 ≤ d
      · rw [show d - (d - 9) = 9 by omega] at hV
        exact parse_step _ 1000000000 _ _ _ _ hV
      · rw [show d - 9 = 0 by omega] at hV ⊢
        rw [List.take_zero, show dval [] = 0 from rfl, Nat.zero_mul, Nat.zero_add] at hV
        rw [List.take_zero, show dval [] = 0 from rfl, Nat.mul_zero, Nat.add_zero]
        exact hV
    · obtain rfl : d = 0 := by omega
      rw [if_neg h0, trim_law _ hv (by omega) k (by omega)]
      rw [List.take_zero, show dval [] = 0 from rfl, Nat.mul_zero, Nat.add_zero] at hV
      rw [hV]
      rfl
/-- The limbs of a natural number's text. -/
theorem parse_law (s : ByteArray) (h : isN s) : ∃ k, natural_parse.f k s = some (limbs (dval s.data.toList)) := by
  have h1 := h.2.1
  refine ⟨2000, ?_⟩
  unfold natural_parse.f
  refine parse_law0 s h.2.2.1 h.2.1 s.size 2000 0 [] (s.size : Int) (by omega) (by omega) (by omega) rfl vl_nil (by omega) (by omega) ?_
  rw [Lib.size_eq, List.take_of_length_le (Nat.le_refl _)]
  simp [numL]
end Go.Proofs.YtdojfnjgipeogaaGreatDoor
