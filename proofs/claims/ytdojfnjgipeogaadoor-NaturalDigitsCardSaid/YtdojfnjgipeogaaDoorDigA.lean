/- NaturalDigits, walked by hand: one theorem for each case. -/
import Derived.Test.YtdojfnjgipeogaaDoorLax1
import Derived.Test.YtdojfnjgipeogaaDoorNatZ
namespace Go.Proofs.YtdojfnjgipeogaaDoor
open Go.RowKit Go.Shelf Go.Proofs.YtdojfnjgipeogaaDoorW.PrintWords Go.Proofs.YtdojfnjgipeogaaDoorW.PrintMore NatB La
set_option linter.unusedSimpArgs false
set_option linter.unusedVariables false
theorem head_pure (k : Nat) : customhouselaw04_head.f (k + 1) = some true := by
  unfold customhouselaw04_head.f
  simp only [h1, h2, h3, h4, h5, h6, h7, Option.bind_some, Lib.toList_data]
  simp [customhouselaw04_head.j0, h8, h9, h10, h11, h12, Lib.toList_data]
theorem headC (w : World) (hG : GOK w) : Calls Tryd.prog 11 #[] w fun e w' => e = .returned (.bool true) ∧ Below w.heap.size w w' := La.customhouselaw04_head.calls 1 true w (head_pure 0) hG
set_option maxHeartbeats 4000000 in
set_option maxRecDepth 1000000 in
theorem digAv1 (n : Int) (s : ByteArray) (m : Int) (a : ByteArray) (w : World) (hG : GOK w)
    (hla : (a.size : Int) ≤ 400) (hn : 0 ≤ n) (q1 : natural_Of.f n = some s) (q2 : natural_Int.f s = some (n, 0)) (q7 : natural_Is.f s = some true) (q3 : natural_Int.f a = some (m, 0)) (qo : natural_Of.f m = some a) (q4 : natural_Compare.f a a = some (0, 0)) (q5 : natural_Is.f a = some true) :
    Calls Tryd.prog 3 #[.int .i64 n, .string a, .string a] w fun e w' => e = .returned (.bool true) ∧ Below w.heap.size w w' := by
  have d1 : decide ((a.size : Int) > 400) = false := decide_eq_false (by omega)
  go_enter Tryd.func3, Tryd.ntmps3
  go_wp2_with (first
      | (go_at_call 11; refine (headC _ hG).mono ?_; rintro e w1 ⟨rfl, hb1⟩; have hbw := hb1)
      | (go_at_call_of 12 (#[Value.int .i64 n] : Array Value); refine (natural_Of.calls _ _ _ q1 (hG.below hbw)).mono ?_; rintro e w2 ⟨rfl, hb2⟩; have hbw := bthen hbw hb2)
      | (go_at_call_of 13 (#[Value.string s] : Array Value); refine (natural_Int.calls _ _ _ _ q2 (hG.below hbw)).mono ?_; rintro e w2 ⟨rfl, hb2⟩; have hbw := bthen hbw hb2)
      | (go_at_call_of 14 (#[Value.string s] : Array Value); refine (natural_Is.calls _ _ _ q7).mono ?_; rintro e w2 ⟨rfl, hb2⟩; have hbw := bthen hbw hb2)
      | (go_at_call_of 13 (#[Value.string a] : Array Value); refine (natural_Int.calls _ _ _ _ q3 (hG.below hbw)).mono ?_; rintro e w2 ⟨rfl, hb2⟩; have hbw := bthen hbw hb2)
      | (go_at_call_of 12 (#[Value.int .i64 m] : Array Value); refine (natural_Of.calls _ _ _ qo (hG.below hbw)).mono ?_; rintro e w2 ⟨rfl, hb2⟩; have hbw := bthen hbw hb2)
      | (go_at_call_of 15 (#[Value.string a, Value.string a] : Array Value); refine (natural_Compare.calls _ _ _ _ _ q4).mono ?_; rintro e w2 ⟨rfl, hb2⟩; have hbw := bthen hbw hb2)
      | (go_at_call_of 14 (#[Value.string a] : Array Value); refine (natural_Is.calls _ _ _ q5).mono ?_; rintro e w2 ⟨rfl, hb2⟩; have hbw := bthen hbw hb2))
  go_ret
  exact ⟨rfl, hbw⟩

set_option maxHeartbeats 4000000 in
set_option maxRecDepth 1000000 in
theorem digAv2 (n : Int) (s : ByteArray) (m : Int) (a b : ByteArray) (c : Int) (w : World) (hG : GOK w)
    (hla : (a.size : Int) ≤ 400) (hlb : (b.size : Int) ≤ 400) (hn : 0 ≤ n) (q1 : natural_Of.f n = some s) (q2 : natural_Int.f s = some (n, 0)) (q7 : natural_Is.f s = some true) (q3 : natural_Int.f a = some (m, 0)) (qo : natural_Of.f m = some a) (q4 : natural_Compare.f a b = some (c, 0)) (hc : c ≠ 0) (hab : a ≠ b) (q5 : natural_Is.f a = some true) (q6 : natural_Is.f b = some true) :
    Calls Tryd.prog 3 #[.int .i64 n, .string a, .string b] w fun e w' => e = .returned (.bool true) ∧ Below w.heap.size w w' := by
  have d1 : decide ((a.size : Int) > 400) = false := decide_eq_false (by omega)
  have d2 : decide ((b.size : Int) > 400) = false := decide_eq_false (by omega)
  have hc' : (c == 0) = false := by rw [beq_eq_false_iff_ne]; exact hc
  have hab' : (a.toList == b.toList) = false := by rw [beq_eq_false_iff_ne]; exact fun h => hab (tl.1 h)
  go_enter Tryd.func3, Tryd.ntmps3
  go_wp2_with (first
      | (go_at_call 11; refine (headC _ hG).mono ?_; rintro e w1 ⟨rfl, hb1⟩; have hbw := hb1)
      | (go_at_call_of 12 (#[Value.int .i64 n] : Array Value); refine (natural_Of.calls _ _ _ q1 (hG.below hbw)).mono ?_; rintro e w2 ⟨rfl, hb2⟩; have hbw := bthen hbw hb2)
      | (go_at_call_of 13 (#[Value.string s] : Array Value); refine (natural_Int.calls _ _ _ _ q2 (hG.below hbw)).mono ?_; rintro e w2 ⟨rfl, hb2⟩; have hbw := bthen hbw hb2)
      | (go_at_call_of 14 (#[Value.string s] : Array Value); refine (natural_Is.calls _ _ _ q7).mono ?_; rintro e w2 ⟨rfl, hb2⟩; have hbw := bthen hbw hb2)
      | (go_at_call_of 13 (#[Value.string a] : Array Value); refine (natural_Int.calls _ _ _ _ q3 (hG.below hbw)).mono ?_; rintro e w2 ⟨rfl, hb2⟩; have hbw := bthen hbw hb2)
      | (go_at_call_of 12 (#[Value.int .i64 m] : Array Value); refine (natural_Of.calls _ _ _ qo (hG.below hbw)).mono ?_; rintro e w2 ⟨rfl, hb2⟩; have hbw := bthen hbw hb2)
      | (go_at_call_of 15 (#[Value.string a, Value.string b] : Array Value); refine (natural_Compare.calls _ _ _ _ _ q4).mono ?_; rintro e w2 ⟨rfl, hb2⟩; have hbw := bthen hbw hb2)
      | (go_at_call_of 14 (#[Value.string a] : Array Value); refine (natural_Is.calls _ _ _ q5).mono ?_; rintro e w2 ⟨rfl, hb2⟩; have hbw := bthen hbw hb2)
      | (go_at_call_of 14 (#[Value.string b] : Array Value); refine (natural_Is.calls _ _ _ q6).mono ?_; rintro e w2 ⟨rfl, hb2⟩; have hbw := bthen hbw hb2))
  go_ret
  exact ⟨rfl, hbw⟩

set_option maxHeartbeats 4000000 in
set_option maxRecDepth 1000000 in
theorem digAv3 (n : Int) (s : ByteArray) (m : Int) (a b : ByteArray) (w : World) (hG : GOK w)
    (hla : (a.size : Int) ≤ 400) (hlb : (b.size : Int) ≤ 400) (hn : 0 ≤ n) (q1 : natural_Of.f n = some s) (q2 : natural_Int.f s = some (n, 0)) (q7 : natural_Is.f s = some true) (q3 : natural_Int.f a = some (m, 0)) (qo : natural_Of.f m = some a) (q4 : natural_Compare.f a b = some (0, 1)) (q5 : natural_Is.f a = some true) (q6 : natural_Is.f b = some false) :
    Calls Tryd.prog 3 #[.int .i64 n, .string a, .string b] w fun e w' => e = .returned (.bool true) ∧ Below w.heap.size w w' := by
  have d1 : decide ((a.size : Int) > 400) = false := decide_eq_false (by omega)
  have d2 : decide ((b.size : Int) > 400) = false := decide_eq_false (by omega)
  go_enter Tryd.func3, Tryd.ntmps3
  go_wp2_with (first
      | (go_at_call 11; refine (headC _ hG).mono ?_; rintro e w1 ⟨rfl, hb1⟩; have hbw := hb1)
      | (go_at_call_of 12 (#[Value.int .i64 n] : Array Value); refine (natural_Of.calls _ _ _ q1 (hG.below hbw)).mono ?_; rintro e w2 ⟨rfl, hb2⟩; have hbw := bthen hbw hb2)
      | (go_at_call_of 13 (#[Value.string s] : Array Value); refine (natural_Int.calls _ _ _ _ q2 (hG.below hbw)).mono ?_; rintro e w2 ⟨rfl, hb2⟩; have hbw := bthen hbw hb2)
      | (go_at_call_of 14 (#[Value.string s] : Array Value); refine (natural_Is.calls _ _ _ q7).mono ?_; rintro e w2 ⟨rfl, hb2⟩; have hbw := bthen hbw hb2)
      | (go_at_call_of 13 (#[Value.string a] : Array Value); refine (natural_Int.calls _ _ _ _ q3 (hG.below hbw)).mono ?_; rintro e w2 ⟨rfl, hb2⟩; have hbw := bthen hbw hb2)
      | (go_at_call_of 12 (#[Value.int .i64 m] : Array Value); refine (natural_Of.calls _ _ _ qo (hG.below hbw)).mono ?_; rintro e w2 ⟨rfl, hb2⟩; have hbw := bthen hbw hb2)
      | (go_at_call_of 15 (#[Value.string a, Value.string b] : Array Value); refine (natural_Compare.calls _ _ _ _ _ q4).mono ?_; rintro e w2 ⟨rfl, hb2⟩; have hbw := bthen hbw hb2)
      | (go_at_call_of 14 (#[Value.string a] : Array Value); refine (natural_Is.calls _ _ _ q5).mono ?_; rintro e w2 ⟨rfl, hb2⟩; have hbw := bthen hbw hb2)
      | (go_at_call_of 14 (#[Value.string b] : Array Value); refine (natural_Is.calls _ _ _ q6).mono ?_; rintro e w2 ⟨rfl, hb2⟩; have hbw := bthen hbw hb2))
  go_ret
  exact ⟨rfl, hbw⟩

set_option maxHeartbeats 4000000 in
set_option maxRecDepth 1000000 in
theorem digAr1 (n : Int) (s : ByteArray) (a : ByteArray) (w : World) (hG : GOK w)
    (hla : (a.size : Int) ≤ 400) (hn : 0 ≤ n) (q1 : natural_Of.f n = some s) (q2 : natural_Int.f s = some (n, 0)) (q7 : natural_Is.f s = some true) (q3 : natural_Int.f a = some (0, 10)) (q4 : natural_Compare.f a a = some (0, 0)) (q5 : natural_Is.f a = some true) :
    Calls Tryd.prog 3 #[.int .i64 n, .string a, .string a] w fun e w' => e = .returned (.bool true) ∧ Below w.heap.size w w' := by
  have d1 : decide ((a.size : Int) > 400) = false := decide_eq_false (by omega)
  go_enter Tryd.func3, Tryd.ntmps3
  go_wp2_with (first
      | (go_at_call 11; refine (headC _ hG).mono ?_; rintro e w1 ⟨rfl, hb1⟩; have hbw := hb1)
      | (go_at_call_of 12 (#[Value.int .i64 n] : Array Value); refine (natural_Of.calls _ _ _ q1 (hG.below hbw)).mono ?_; rintro e w2 ⟨rfl, hb2⟩; have hbw := bthen hbw hb2)
      | (go_at_call_of 13 (#[Value.string s] : Array Value); refine (natural_Int.calls _ _ _ _ q2 (hG.below hbw)).mono ?_; rintro e w2 ⟨rfl, hb2⟩; have hbw := bthen hbw hb2)
      | (go_at_call_of 14 (#[Value.string s] : Array Value); refine (natural_Is.calls _ _ _ q7).mono ?_; rintro e w2 ⟨rfl, hb2⟩; have hbw := bthen hbw hb2)
      | (go_at_call_of 13 (#[Value.string a] : Array Value); refine (natural_Int.calls _ _ _ _ q3 (hG.below hbw)).mono ?_; rintro e w2 ⟨rfl, hb2⟩; have hbw := bthen hbw hb2)
      | (go_at_call_of 15 (#[Value.string a, Value.string a] : Array Value); refine (natural_Compare.calls _ _ _ _ _ q4).mono ?_; rintro e w2 ⟨rfl, hb2⟩; have hbw := bthen hbw hb2)
      | (go_at_call_of 14 (#[Value.string a] : Array Value); refine (natural_Is.calls _ _ _ q5).mono ?_; rintro e w2 ⟨rfl, hb2⟩; have hbw := bthen hbw hb2))
  go_ret
  exact ⟨rfl, hbw⟩

set_option maxHeartbeats 4000000 in
set_option maxRecDepth 1000000 in
theorem digAr2 (n : Int) (s : ByteArray) (a b : ByteArray) (c : Int) (w : World) (hG : GOK w)
    (hla : (a.size : Int) ≤ 400) (hlb : (b.size : Int) ≤ 400) (hn : 0 ≤ n) (q1 : natural_Of.f n = some s) (q2 : natural_Int.f s = some (n, 0)) (q7 : natural_Is.f s = some true) (q3 : natural_Int.f a = some (0, 10)) (q4 : natural_Compare.f a b = some (c, 0)) (hc : c ≠ 0) (hab : a ≠ b) (q5 : natural_Is.f a = some true) (q6 : natural_Is.f b = some true) :
    Calls Tryd.prog 3 #[.int .i64 n, .string a, .string b] w fun e w' => e = .returned (.bool true) ∧ Below w.heap.size w w' := by
  have d1 : decide ((a.size : Int) > 400) = false := decide_eq_false (by omega)
  have d2 : decide ((b.size : Int) > 400) = false := decide_eq_false (by omega)
  have hc' : (c == 0) = false := by rw [beq_eq_false_iff_ne]; exact hc
  have hab' : (a.toList == b.toList) = false := by rw [beq_eq_false_iff_ne]; exact fun h => hab (tl.1 h)
  go_enter Tryd.func3, Tryd.ntmps3
  go_wp2_with (first
      | (go_at_call 11; refine (headC _ hG).mono ?_; rintro e w1 ⟨rfl, hb1⟩; have hbw := hb1)
      | (go_at_call_of 12 (#[Value.int .i64 n] : Array Value); refine (natural_Of.calls _ _ _ q1 (hG.below hbw)).mono ?_; rintro e w2 ⟨rfl, hb2⟩; have hbw := bthen hbw hb2)
      | (go_at_call_of 13 (#[Value.string s] : Array Value); refine (natural_Int.calls _ _ _ _ q2 (hG.below hbw)).mono ?_; rintro e w2 ⟨rfl, hb2⟩; have hbw := bthen hbw hb2)
      | (go_at_call_of 14 (#[Value.string s] : Array Value); refine (natural_Is.calls _ _ _ q7).mono ?_; rintro e w2 ⟨rfl, hb2⟩; have hbw := bthen hbw hb2)
      | (go_at_call_of 13 (#[Value.string a] : Array Value); refine (natural_Int.calls _ _ _ _ q3 (hG.below hbw)).mono ?_; rintro e w2 ⟨rfl, hb2⟩; have hbw := bthen hbw hb2)
      | (go_at_call_of 15 (#[Value.string a, Value.string b] : Array Value); refine (natural_Compare.calls _ _ _ _ _ q4).mono ?_; rintro e w2 ⟨rfl, hb2⟩; have hbw := bthen hbw hb2)
      | (go_at_call_of 14 (#[Value.string a] : Array Value); refine (natural_Is.calls _ _ _ q5).mono ?_; rintro e w2 ⟨rfl, hb2⟩; have hbw := bthen hbw hb2)
      | (go_at_call_of 14 (#[Value.string b] : Array Value); refine (natural_Is.calls _ _ _ q6).mono ?_; rintro e w2 ⟨rfl, hb2⟩; have hbw := bthen hbw hb2))
  go_ret
  exact ⟨rfl, hbw⟩

set_option maxHeartbeats 4000000 in
set_option maxRecDepth 1000000 in
theorem digAr3 (n : Int) (s : ByteArray) (a b : ByteArray) (w : World) (hG : GOK w)
    (hla : (a.size : Int) ≤ 400) (hlb : (b.size : Int) ≤ 400) (hn : 0 ≤ n) (q1 : natural_Of.f n = some s) (q2 : natural_Int.f s = some (n, 0)) (q7 : natural_Is.f s = some true) (q3 : natural_Int.f a = some (0, 10)) (q4 : natural_Compare.f a b = some (0, 1)) (q5 : natural_Is.f a = some true) (q6 : natural_Is.f b = some false) :
    Calls Tryd.prog 3 #[.int .i64 n, .string a, .string b] w fun e w' => e = .returned (.bool true) ∧ Below w.heap.size w w' := by
  have d1 : decide ((a.size : Int) > 400) = false := decide_eq_false (by omega)
  have d2 : decide ((b.size : Int) > 400) = false := decide_eq_false (by omega)
  go_enter Tryd.func3, Tryd.ntmps3
  go_wp2_with (first
      | (go_at_call 11; refine (headC _ hG).mono ?_; rintro e w1 ⟨rfl, hb1⟩; have hbw := hb1)
      | (go_at_call_of 12 (#[Value.int .i64 n] : Array Value); refine (natural_Of.calls _ _ _ q1 (hG.below hbw)).mono ?_; rintro e w2 ⟨rfl, hb2⟩; have hbw := bthen hbw hb2)
      | (go_at_call_of 13 (#[Value.string s] : Array Value); refine (natural_Int.calls _ _ _ _ q2 (hG.below hbw)).mono ?_; rintro e w2 ⟨rfl, hb2⟩; have hbw := bthen hbw hb2)
      | (go_at_call_of 14 (#[Value.string s] : Array Value); refine (natural_Is.calls _ _ _ q7).mono ?_; rintro e w2 ⟨rfl, hb2⟩; have hbw := bthen hbw hb2)
      | (go_at_call_of 13 (#[Value.string a] : Array Value); refine (natural_Int.calls _ _ _ _ q3 (hG.below hbw)).mono ?_; rintro e w2 ⟨rfl, hb2⟩; have hbw := bthen hbw hb2)
      | (go_at_call_of 15 (#[Value.string a, Value.string b] : Array Value); refine (natural_Compare.calls _ _ _ _ _ q4).mono ?_; rintro e w2 ⟨rfl, hb2⟩; have hbw := bthen hbw hb2)
      | (go_at_call_of 14 (#[Value.string a] : Array Value); refine (natural_Is.calls _ _ _ q5).mono ?_; rintro e w2 ⟨rfl, hb2⟩; have hbw := bthen hbw hb2)
      | (go_at_call_of 14 (#[Value.string b] : Array Value); refine (natural_Is.calls _ _ _ q6).mono ?_; rintro e w2 ⟨rfl, hb2⟩; have hbw := bthen hbw hb2))
  go_ret
  exact ⟨rfl, hbw⟩

set_option maxHeartbeats 4000000 in
set_option maxRecDepth 1000000 in
theorem digAn (n : Int) (s : ByteArray) (a b : ByteArray) (w : World) (hG : GOK w)
    (hla : (a.size : Int) ≤ 400) (hlb : (b.size : Int) ≤ 400) (hn : 0 ≤ n) (q1 : natural_Of.f n = some s) (q2 : natural_Int.f s = some (n, 0)) (q7 : natural_Is.f s = some true) (q3 : natural_Int.f a = some (0, 1)) (q4 : natural_Compare.f a b = some (0, 1)) (q5 : natural_Is.f a = some false) :
    Calls Tryd.prog 3 #[.int .i64 n, .string a, .string b] w fun e w' => e = .returned (.bool true) ∧ Below w.heap.size w w' := by
  have d1 : decide ((a.size : Int) > 400) = false := decide_eq_false (by omega)
  have d2 : decide ((b.size : Int) > 400) = false := decide_eq_false (by omega)
  go_enter Tryd.func3, Tryd.ntmps3
  go_wp2_with (first
      | (go_at_call 11; refine (headC _ hG).mono ?_; rintro e w1 ⟨rfl, hb1⟩; have hbw := hb1)
      | (go_at_call_of 12 (#[Value.int .i64 n] : Array Value); refine (natural_Of.calls _ _ _ q1 (hG.below hbw)).mono ?_; rintro e w2 ⟨rfl, hb2⟩; have hbw := bthen hbw hb2)
      | (go_at_call_of 13 (#[Value.string s] : Array Value); refine (natural_Int.calls _ _ _ _ q2 (hG.below hbw)).mono ?_; rintro e w2 ⟨rfl, hb2⟩; have hbw := bthen hbw hb2)
      | (go_at_call_of 14 (#[Value.string s] : Array Value); refine (natural_Is.calls _ _ _ q7).mono ?_; rintro e w2 ⟨rfl, hb2⟩; have hbw := bthen hbw hb2)
      | (go_at_call_of 13 (#[Value.string a] : Array Value); refine (natural_Int.calls _ _ _ _ q3 (hG.below hbw)).mono ?_; rintro e w2 ⟨rfl, hb2⟩; have hbw := bthen hbw hb2)
      | (go_at_call_of 15 (#[Value.string a, Value.string b] : Array Value); refine (natural_Compare.calls _ _ _ _ _ q4).mono ?_; rintro e w2 ⟨rfl, hb2⟩; have hbw := bthen hbw hb2)
      | (go_at_call_of 14 (#[Value.string a] : Array Value); refine (natural_Is.calls _ _ _ q5).mono ?_; rintro e w2 ⟨rfl, hb2⟩; have hbw := bthen hbw hb2))
  go_ret
  exact ⟨rfl, hbw⟩
end Go.Proofs.YtdojfnjgipeogaaDoor
