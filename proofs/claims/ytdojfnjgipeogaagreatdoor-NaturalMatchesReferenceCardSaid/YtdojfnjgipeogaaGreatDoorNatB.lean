/- The closure of slices.Backward over a slice of limbs: its contract for the law of a range over a function. -/
import Derived.RangeFuncBox
import Derived.RangeFuncLeaves
import Derived.RangeFuncNested
import Derived.Shelf.Abstract
import Derived.WalkKit
import Derived.OwnWalkIn
import Derived.TacticsInMore
import Derived.LoopNIn
import Derived.LoopIn
import Derived.Lib.Hide
import Derived.Test.YtdojfnjgipeogaaGreatDoorProg
import Derived.Test.YtdojfnjgipeogaaGreatDoorMyW
namespace Go.Proofs.YtdojfnjgipeogaaGreatDoor.NatB
open Go.RowKit Go.Shelf Go.Proofs.YtdojfnjgipeogaaGreatDoorW.PrintWords
attribute [local go_sem] Oper.semAt_some

/-- What has come when k rounds are over: the greatest indices, downwards. -/
def dn (n k : Nat) : List (Fin n) := ((List.finRange n).reverse).take k
theorem dn_length {n k : Nat} (h : k ≤ n) : (dn n k).length = k := by simp [dn]; omega
theorem dn_succ {n k : Nat} (h : k < n) : dn n (k + 1) = dn n k ++ [⟨n - 1 - k, by omega⟩] := by
  unfold dn
  rw [List.take_succ_eq_append_getElem (by simpa using h)]
  congr 2
  apply Fin.ext
  simp
def KpB (n₀ Bn : Nat) (W W' : World) : Prop := Below n₀ W W' ∧ W'.heap[Bn]? = W.heap[Bn]?
theorem kpB_t {n₀ Bn : Nat} {A B C : World} (h : KpB n₀ Bn A B) (k : KpB n₀ Bn B C) : KpB n₀ Bn A C := ⟨h.1.trans k.1, k.2.trans h.2⟩
theorem kpB_b {n₀ Bn : Nat} {w : World} (hn : n₀ ≤ w.heap.size) (hb : Bn < w.heap.size) (W : World) (l : Nat) (o o' : Obj) (hl : w.heap.size ≤ l) (h : W.heap[l]? = some o) (h1 : o.isCells = false) (h2 : o.isWalk = false) : KpB n₀ Bn W (W.putObj l o') :=
  ⟨belowK_b hn W l o o' hl h h1 h2, World.putObj_heap_other (by omega)⟩

set_option maxRecDepth 100000 in
set_option maxHeartbeats 2000000 in
theorem back1_in (F : Fence) (n : Nat) (hf : F.fn 73) (hro : F.round = none) (hn : 1 ≤ n) (l Bn n₀ : Nat) (A : Option Addr) (c : Nat) (xs : List Int) (hlen : xs.length ≤ 100000) (J Jx : List (Fin xs.length) → World → Prop)
    (hY : ∀ (pre : List (Fin xs.length)) (x : Fin xs.length) (W : World), J pre W → pre.length < xs.length → YieldAt F (n - 1) Tryz.prog l #[.int .i64 ((x : Nat) : Int), .int .u64 (rd xs ((x : Nat) : Int))] W fun e W' =>
      (e = .returned (.bool true) ∧ J (pre ++ [x]) W' ∧ KpB n₀ Bn W W') ∨ (e = .returned (.bool false) ∧ Jx (pre ++ [x]) W'))
    (W : World) (hBn : W.cell? ⟨Bn, 0, none⟩ = some (.slice A xs.length c)) (hC : ∀ W', Below n₀ W W' → Kd.C (Kd.int .u64) W' A xs.length xs) (h0 : J [] W) :
    CallsIn F n Tryz.prog 73 #[.func (.yield l) #[] #[], .pointer (some ⟨Bn, 0, none⟩)] W fun e W' => (∃ v, e = .returned v) ∧
      ((∃ ys, ys = dn xs.length xs.length ∧ J ys W') ∨ (∃ pre, (∃ k, k ≤ xs.length ∧ pre = dn xs.length k) ∧ Jx pre W')) := by
  have HC := Lib.hid hC
  clear hC
  refine callsIn_of_wp Tryz.func73 rfl hf ?_ hro
  simp only [Tryz.ntmps73, List.size_toArray, List.length_cons, List.length_nil, Nat.reduceAdd, Nat.reduceSub, Array.replicate_succ, Array.replicate_zero, List.push_toArray, List.append_toArray, List.nil_append, List.cons_append]
  gi_wp2
  gi_loopw [3] (fun i wr => ∃ k : Nat, k ≤ xs.length ∧ i = .int .i64 ((xs.length : Int) - 1 - (k : Int)) ∧ J (dn xs.length k) wr ∧ KpB n₀ Bn W wr)
    (fun i _ => (intOf i + 1).toNat)
  case atStart => exact ⟨0, Nat.zero_le _, by simp, h0, Below.refl _ _, rfl⟩
  case round =>
    obtain ⟨k, hk, rfl, hJs, hkp⟩ := hrel
    have hBx : wr.cell? ⟨Bn, 0, none⟩ = some (.slice A xs.length c) := (World.cell?_of_block hkp.2).trans hBn
    by_cases hlt : k < xs.length
    · obtain ⟨fn, tmps, assign, body, hy, hR⟩ := hY _ ⟨xs.length - 1 - k, by omega⟩ wr hJs (by rw [dn_length (by omega)]; exact hlt)
      have hi : (((xs.length - 1 - k : Nat)) : Int) = (xs.length : Int) - 1 - (k : Int) := by omega
      dsimp only at hy
      rw [hi] at hy
      have q : (xs.length : Int) - 1 - (k : Int) < xs.length := by omega
      have p : 0 ≤ (xs.length : Int) - 1 - (k : Int) := by omega
      obtain ⟨ad, rfl, hx⟩ := Kd.at_int (HC.out wr hkp.1) ((xs.length : Int) - 1 - (k : Int)) p q
      rw [show ((xs.length : Int) - 1 - (k : Int)).toNat = xs.length - 1 - k by omega] at hx
      have hJ' := Lib.hid hi
      clear hi
      gi_wp2
      refine hR.mono ?_
      rintro e W3 (⟨rfl, hJ3, hk3⟩ | ⟨rfl, hJx3⟩)
      · gi_wp2
        go_roundw
        case rel => exact ⟨k + 1, by omega, by rw [show (xs.length : Int) - 1 - ((k + 1 : Nat) : Int) = (xs.length : Int) - 1 - (k : Int) - 1 by omega], by rw [dn_succ hlt]; exact hJ3, kpB_t hkp hk3⟩
        case measure => simp [intOf]; omega
      · gi_wp2
        refine bodyPost_ret (results_none rfl _ _ _) rfl ?_
        exact ⟨⟨_, rfl⟩, .inr ⟨_, ⟨k + 1, by omega, (dn_succ hlt).symm⟩, hJx3⟩⟩
    · obtain rfl : k = xs.length := by omega
      gi_wp2
      go_end0
      exact ⟨⟨_, rfl⟩, .inl ⟨_, rfl, hJs⟩⟩

set_option maxHeartbeats 1000000 in
theorem back_in (F : Fence) (n : Nat) (hf : F.fn 47) (hro : F.round = none) (a : Option Addr) (len cap : Nat) (w : World) :
    CallsIn F n Tryz.prog 47 #[.slice a len cap] w fun e w' => e = .returned (.func (.func 73) #[] #[.pointer (some ⟨w.heap.size, 0, none⟩)]) ∧ w' = w.alloc (.cells #[.slice a len cap] 36) := by
  refine callsIn_of_wp Tryz.func47 rfl hf ?_ hro
  simp only [Tryz.ntmps47, List.size_toArray, List.length_cons, List.length_nil, Nat.reduceAdd, Nat.reduceSub, Array.replicate_succ, Array.replicate_zero, List.push_toArray, List.append_toArray, List.nil_append, List.cons_append]
  gi_wp2
  go_ret
  exact ⟨rfl, rfl⟩

theorem back_stops (F : Fence) (n : Nat) (hf : F.fn 73) (hro : F.round = none) (hn : 1 ≤ n) (Bn n₀ : Nat) (A : Option Addr) (c : Nat) (xs : List Int) (hlen : xs.length ≤ 100000) (w : World) (hBn : Bn < w.heap.size) (hn₀ : n₀ ≤ w.heap.size)
    (hc : w.cell? ⟨Bn, 0, none⟩ = some (.slice A xs.length c)) (hC : ∀ W', Below n₀ w W' → Kd.C (Kd.int .u64) W' A xs.length xs) :
    SeqStopsK F n Tryz.prog 73 #[.pointer (some ⟨Bn, 0, none⟩)] (fun x : Fin xs.length => #[Value.int .i64 ((x : Nat) : Int), Value.int .u64 (rd xs ((x : Nat) : Int))]) (KpB n₀ Bn) (fun ys => ys = dn xs.length xs.length)
      (fun pre => ∃ k, k ≤ xs.length ∧ pre = dn xs.length k) xs.length w := fun l J Jx W hW _ _ hY h0 =>
  back1_in F n hf hro hn l Bn n₀ A c xs hlen J Jx hY W ((hW.cell (p := ⟨Bn, 0, none⟩) hBn).trans hc) (fun W' hb => hC W' ((hW.mono hn₀).trans hb)) h0
end Go.Proofs.YtdojfnjgipeogaaGreatDoor.NatB
