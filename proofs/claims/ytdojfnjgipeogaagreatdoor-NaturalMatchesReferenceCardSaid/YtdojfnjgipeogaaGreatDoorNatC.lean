/- (number).compare: lengths first, then the limbs from the last one down. -/
import Derived.Test.YtdojfnjgipeogaaGreatDoorNatB
import Derived.Test.YtdojfnjgipeogaaGreatDoorNatL
import Derived.Test.YtdojfnjgipeogaaGreatDoorInx
namespace Go.Proofs.YtdojfnjgipeogaaGreatDoor
open Go.RowKit Go.Shelf Go.Proofs.YtdojfnjgipeogaaGreatDoorW.PrintWords NatB
attribute [local go_sem] Oper.semAt_some

def cmpI (a b : Int) : Int := if a < b then -1 else if a > b then 1 else 0
theorem cmp_int_f (a b : Int) : In.cmp_Compare_int.f a b = some (cmpI a b) := by
  unfold In.cmp_Compare_int.f In.cmp_isNaN_int.f cmpI
  simp only [bne_self_eq_false, Option.bind_some, Bool.false_eq_true, if_false]
  split
  · rfl
  · split <;> rfl
theorem cmp_uint_f (a b : Int) : In.cmp_Compare_uint64.f a b = some (cmpI a b) := by
  unfold In.cmp_Compare_uint64.f In.cmp_isNaN_uint64.f cmpI
  simp only [bne_self_eq_false, Option.bind_some, Bool.false_eq_true, if_false]
  split
  · rfl
  · split <;> rfl
theorem cmpI_zero (a b : Int) : cmpI a b = 0 ↔ a = b := by unfold cmpI; split <;> (try split) <;> omega

/-- The comparison of the limbs below n, the greatest index first. -/
def cmpAt (l0 l1 : List Int) : Nat → Int
  | 0 => 0
  | k + 1 => if rd l0 (k : Int) = rd l1 (k : Int) then cmpAt l0 l1 k else cmpI (rd l0 (k : Int)) (rd l1 (k : Int))
def cmpL (l0 l1 : List Int) : Int := if l0.length = l1.length then cmpAt l0 l1 l0.length else cmpI (l0.length : Int) (l1.length : Int)
theorem cmpAt_skip (l0 l1 : List Int) (n : Nat) : ∀ k, k ≤ n → (∀ j, n - k ≤ j → j < n → rd l0 (j : Int) = rd l1 (j : Int)) → cmpAt l0 l1 n = cmpAt l0 l1 (n - k)
  | 0, _, _ => rfl
  | k + 1, hk, h => by
    rw [cmpAt_skip l0 l1 n k (by omega) (fun j h1 h2 => h j (by omega) h2), show n - k = (n - (k + 1)) + 1 by omega]
    show (if _ then _ else _) = _
    rw [if_pos (h _ (Nat.le_refl _) (by omega))]

theorem mem_dn {n k : Nat} (h : k ≤ n) (j : Nat) (h1 : n - k ≤ j) (h2 : j < n) : (⟨j, h2⟩ : Fin n) ∈ dn n k := by
  unfold dn
  refine List.mem_iff_getElem.2 ⟨n - 1 - j, by simp; omega, ?_⟩
  apply Fin.ext
  simp
  omega

def natural_number_compare.f (l0 l1 : List Int) : Option Int := if l0.length ≤ 100000 ∧ l1.length ≤ 100000 then some (cmpL l0 l1) else none

set_option maxRecDepth 100000 in
set_option maxHeartbeats 4000000 in
theorem compare_ne (A0 : Option Addr) (c0 : Nat) (l0 : List Int) (A1 : Option Addr) (c1 : Nat) (l1 : List Int) (w : World) (hl : ¬ l0.length = l1.length) :
    Calls Tryz.prog 33 #[.slice A0 l0.length c0, .slice A1 l1.length c1] w fun e w' => e = .returned (.int .i64 (cmpI (l0.length : Int) (l1.length : Int))) ∧ Below w.heap.size w w' := by
  have hcz : (cmpI (l0.length : Int) (l1.length : Int) != 0) = true := by
    rw [bne_iff_ne]
    intro h
    exact hl (by have := (cmpI_zero _ _).1 h; omega)
  clear hl
  go_enter Tryz.func33, Tryz.ntmps33
  go_wp2_with (go_at_call 59; refine (In.cmp_Compare_int.calls _ _ _ _ (cmp_int_f _ _)).mono ?_; rintro e w' ⟨rfl, ⟨nd, rfl⟩⟩)
  refine bodyPost_ret (v := .int .i64 (cmpI (l0.length : Int) (l1.length : Int))) (by simp [results, Tryz.f33, go_sem]) rfl ⟨rfl, ?_⟩
  exact (pw_below_drewN (((Below.refl _ _).alloc (Nat.le_refl _) _).alloc (by simp) _) _).setCell (by simp) _

set_option maxRecDepth 100000 in
set_option maxHeartbeats 4000000 in
theorem compare_eq (A0 : Option Addr) (c0 : Nat) (l0 : List Int) (A1 : Option Addr) (c1 : Nat) (l1 : List Int) (w : World) (hl : l1.length = l0.length) (hn0 : l0.length ≤ 100000)
    (hr0 : Kd.C (Kd.int .u64) w A0 l0.length l0) (hr1 : Kd.C (Kd.int .u64) w A1 l0.length l1) :
    Calls Tryz.prog 33 #[.slice A0 l0.length c0, .slice A1 l0.length c1] w fun e w' => e = .returned (.int .i64 (cmpAt l0 l1 l0.length)) ∧ Below w.heap.size w w' := by
  have hcz : cmpI (l0.length : Int) (l0.length : Int) = 0 := (cmpI_zero _ _).2 rfl
  have hf := cmp_int_f (l0.length : Int) (l0.length : Int)
  rw [hcz] at hf
  have HF := Lib.hid hf
  have HR0 := Lib.hid hr0
  have HR1 := Lib.hid hr1
  have HL := Lib.hid hl
  clear hcz hf hr0 hr1 hl
  refine (callsIn_wide (n := 5)).1 ?_
  refine callsIn_of_wp_marks Tryz.func33 rfl trivial ?_ rfl
  simp only [Tryz.ntmps33, List.size_toArray, List.length_cons, List.length_nil, Nat.reduceAdd, Nat.reduceSub, Array.replicate_succ, Array.replicate_zero, List.push_toArray, List.append_toArray, List.nil_append, List.cons_append]
  gi_wp2_with (first | (refine ⟨trivial, ?_⟩; gi_at_call 59; refine (callsIn_wide.2 (In.cmp_Compare_int.calls _ _ _ _ HF.out)).mono ?_; rintro e w' ⟨rfl, ⟨nd, rfl⟩⟩) | (refine ⟨trivial, ?_⟩; gi_at_call 47; refine (back_in Fence.wide _ trivial rfl _ _ _ _).mono ?_; rintro e w' ⟨rfl, rfl⟩))
  have hB0 : Below w.heap.size w ((((w.alloc (.cells #[.slice A1 l0.length c1] 36)).alloc (.cells #[.int .i64 0] 3)).drewN nd).alloc (.cells #[.slice A0 l0.length c0] 36)) :=
    below_alloc (pw_below_drewN (((Below.refl _ _).alloc (Nat.le_refl _) _).alloc (by simp) _) _) _
  have b0 := (((Boxed.new w 36 (.slice A1 l0.length c1)).alloc (.cells #[.int .i64 0] 3))).alloc (.cells #[.slice A0 l0.length c0] 36)
  have b1 := (Boxed.new (w.alloc (.cells #[.slice A1 l0.length c1] 36)) 3 (.int .i64 0)).alloc (.cells #[.slice A0 l0.length c0] 36)
  have b2 := Boxed.new ((w.alloc (.cells #[.slice A1 l0.length c1] 36)).alloc (.cells #[.int .i64 0] 3)) 36 (.slice A0 l0.length c0)
  rw [World.size_alloc] at b1 b2
  rw [World.size_alloc] at b2
  obtain ⟨W0, hW0⟩ : ∃ W0, ((((w.alloc (.cells #[.slice A1 l0.length c1] 36)).alloc (.cells #[.int .i64 0] 3)).drewN nd).alloc (.cells #[.slice A0 l0.length c0] 36)) = W0 := ⟨_, rfl⟩
  have hsz : W0.heap.size = w.heap.size + 3 := by rw [← hW0]; simp
  have c0' : W0.cell? ⟨w.heap.size, 0, none⟩ = some (.slice A1 l0.length c1) := by rw [← hW0]; exact b0.cell
  have c1' : W0.cell? ⟨w.heap.size + 1, 0, none⟩ = some (.int .i64 0) := by rw [← hW0]; exact b1.cell
  have f1' : W0.frozen? ⟨w.heap.size + 1, 0, none⟩ = false := by rw [← hW0]; exact b1.frozen
  have c2' : W0.cell? ⟨w.heap.size + 1 + 1, 0, none⟩ = some (.slice A0 l0.length c0) := by rw [← hW0]; exact b2.cell
  rw [hW0] at hB0 ⊢
  clear hW0 b0 b1 b2
  refine wpIn_rangeFunc_ownG rfl (by omega) (gf := 73) (lb := #[.pointer (some ⟨w.heap.size + 1 + 1, 0, none⟩)]) rfl trivial (enters_of Tryz.func73 (by kernel_rfl) rfl)
    (back_stops Fence.wide _ trivial rfl (by omega) (w.heap.size + 1 + 1) w.heap.size A0 c0 l0 hn0 W0 (by omega) (by omega) c2' (fun W' hb => Kd.C_below HR0.out (hB0.trans hb))) kpB_t (kpB_b (by omega) (by omega)) (Below.refl _ _) (fun _ => rfl)
    (fun pre W => ((∀ p : Fin l0.length, p ∈ pre → rd l0 ((p : Nat) : Int) = rd l1 ((p : Nat) : Int)) ∧ W.cell? ⟨w.heap.size, 0, none⟩ = some (.slice A1 l0.length c1) ∧ W.cell? ⟨w.heap.size + 1, 0, none⟩ = some (.int .i64 0) ∧ W.frozen? ⟨w.heap.size + 1, 0, none⟩ = false) ∧ Below w.heap.size w W)
    (fun c pre W => (c = .ret ∧ ∃ (ini : List (Fin l0.length)) (last : Fin l0.length), pre = ini ++ [last] ∧ (∀ p : Fin l0.length, p ∈ ini → rd l0 ((p : Nat) : Int) = rd l1 ((p : Nat) : Int)) ∧ ¬ rd l0 ((last : Nat) : Int) = rd l1 ((last : Nat) : Int) ∧ W.cell? ⟨w.heap.size + 1, 0, none⟩ = some (.int .i64 (cmpI (rd l0 ((last : Nat) : Int)) (rd l1 ((last : Nat) : Int))))) ∧ Below w.heap.size w W)
    (OwnFrom.and (Own.from (fun s A B row hs hg hr => ⟨hs.1, cell_kept hs.2.1 hg hr, cell_kept hs.2.2.1 hg hr, (frozen_kept hs.2.2.1 hg hr).trans hs.2.2.2⟩) _) (ownFrom_below (Nat.le_refl _) (by omega)))
    (fun c => OwnFrom.and (Own.from (fun s A B row hs hg hr => by obtain ⟨hc, ini, last, e1, e2, e3, e4⟩ := hs; exact ⟨hc, ini, last, e1, e2, e3, cell_kept e4 hg hr⟩) _) (ownFrom_below (Nat.le_refl _) (by omega)))
    ⟨⟨by simp, c0', c1', f1'⟩, hB0⟩
    (fun x => { tmps := #[.slice A0 l0.length c0, .slice A1 l0.length c1, undef, .pointer (some ⟨w.heap.size, 0, none⟩), .pointer (some ⟨w.heap.size + 1, 0, none⟩), .int .i64 0, .int .i64 ((x : Nat) : Int), .int .u64 (rd l0 ((x : Nat) : Int)), undef,
        .slice A0 l0.length c0, .int .i64 (l0.length : Int), .slice A1 l0.length c1, .int .i64 (l0.length : Int), .int .i64 0, .int .i64 0, .bool false, undef, .slice A0 l0.length c0, .func (.func 73) #[] #[.pointer (some ⟨w.heap.size + 1 + 1, 0, none⟩)],
        .int .i64 ((x : Nat) : Int), .int .u64 (rd l0 ((x : Nat) : Int)), undef, undef, undef, undef, undef, undef, undef, undef, undef], defers := [] }) ?assign ?body ?done ?stop
  case assign =>
    intro l x W K hK
    gi_wp2
    exact hK
  case body =>
    rintro l pre x W ⟨⟨hp, hc0, hc1, hf1⟩, hB⟩ _
    have hxlt : ((x : Nat) : Int) < (l0.length : Int) := by omega
    have hx0 : (0 : Int) ≤ ((x : Nat) : Int) := by omega
    obtain ⟨ad, rfl, hx⟩ := Kd.at_int HR1.out ((x : Nat) : Int) hx0 hxlt
    replace hx := (hB.cell (World.block_lt_of_cell? w _ hx)).trans hx
    rw [Int.toNat_natCast] at hx
    by_cases heq : rd l0 ((x : Nat) : Int) = rd l1 ((x : Nat) : Int)
    · have hz : (cmpI (rd l0 ((x : Nat) : Int)) (rd l1 ((x : Nat) : Int)) != 0) = false := by rw [bne_eq_false_iff_eq]; exact (cmpI_zero _ _).2 heq
      have HE := Lib.hid heq
      clear heq
      gi_wp2_with (refine ⟨trivial, ?_⟩; gi_at_call 60; refine (CallsIn.inRound l (callsIn_wide.2 (In.cmp_Compare_uint64.calls _ _ _ _ (cmp_uint_f _ _)))).mono ?_; rintro e w' ⟨rfl, ⟨nq, rfl⟩⟩)
      exact ⟨⟨Nat.le_refl _, fun k o _ hk _ => hk⟩, ⟨pw_below_drewN (Below.refl _ _) _, rfl⟩, ⟨fun p hp' => (List.mem_append.1 hp').elim (hp p) (fun e => by simp at e; subst e; exact HE.out), hc0, hc1, hf1⟩, pw_below_drewN hB _⟩
    · have hz : (cmpI (rd l0 ((x : Nat) : Int)) (rd l1 ((x : Nat) : Int)) != 0) = true := by rw [bne_iff_ne]; exact fun h => heq ((cmpI_zero _ _).1 h)
      have HE := Lib.hid heq
      clear heq
      gi_wp2_with (refine ⟨trivial, ?_⟩; gi_at_call 60; refine (CallsIn.inRound l (callsIn_wide.2 (In.cmp_Compare_uint64.calls _ _ _ _ (cmp_uint_f _ _)))).mono ?_; rintro e w' ⟨rfl, ⟨nq, rfl⟩⟩)
      exact ⟨(show KeepsFrom _ W (W.drewN nq) from ⟨Nat.le_refl _, fun k o _ hk _ => hk⟩).trans ((KeepsOthers.setCell _ _ _).from _), ⟨rfl, pre, x, rfl, hp, HE.out, World.cell?_setCell_same' _ _ _ (by rw [World.cell?_drewN, hc1]; rfl)⟩, (pw_below_drewN hB _).setCell (p := ⟨w.heap.size + 1, 0, none⟩) (by simp) _⟩
  case done =>
    rintro D ys W hD rfl ⟨⟨hne, hc0, hcr, hfr⟩, hB⟩ hK
    gi_wp2
    have hK' := (KeepsOthers.setCell W ⟨w.heap.size + 1, 0, none⟩ (.int .i64 0)).same D _ hK rfl
    refine ⟨by simp, .inl ⟨_, _, rfl, run_takeDeferred hK', ?_⟩⟩
    have hc5 := cell_kept (World.cell?_setCell_same' W ⟨w.heap.size + 1, 0, none⟩ (.int .i64 0) (by rw [hcr]; rfl)) (grownBy_putObj' _ D (.deferred none)) (fun r e => by cases e; exact ⟨_, hK', rfl⟩)
    refine ⟨.int .i64 0, ?_, ?_, (hB.setCell (p := ⟨w.heap.size + 1, 0, none⟩) (by simp) _).trans (belowK_b (w := w) (Nat.le_refl _) _ D _ _ (by omega) hK' rfl rfl)⟩
    · simp [results, Tryz.f33, go_sem, hc5]
    · rw [cmpAt_skip l0 l1 l0.length l0.length (Nat.le_refl _) (fun j _ h2 => hne ⟨j, h2⟩ (mem_dn (Nat.le_refl _) j (by omega) h2)), Nat.sub_self]
      rfl
  case stop =>
    rintro D c pre W hD ⟨k, hk, rfl⟩ ⟨⟨rfl, ini, last, e1, e2, e3, hcr⟩, hB⟩ hK
    gi_wp2
    refine ⟨by simp, .inl ⟨_, _, rfl, run_takeDeferred hK, ?_⟩⟩
    have hc5 := cell_kept hcr (grownBy_putObj' _ D (.deferred none)) (fun r e => by cases e; exact ⟨_, hK, rfl⟩)
    obtain ⟨k', rfl⟩ : ∃ k', k = k' + 1 := by
      cases k with
      | zero => simp [dn] at e1
      | succ k' => exact ⟨k', rfl⟩
    rw [dn_succ (by omega)] at e1
    obtain ⟨rfl, e5⟩ := List.append_inj' e1 rfl
    obtain rfl : (⟨l0.length - 1 - k', by omega⟩ : Fin l0.length) = last := by simpa using e5
    have h1 := cmpAt_skip l0 l1 l0.length k' (by omega) (fun j h1 h2 => e2 ⟨j, h2⟩ (mem_dn (by omega) j h1 h2))
    have h2 : cmpAt l0 l1 l0.length = cmpI (rd l0 ((l0.length - 1 - k' : Nat) : Int)) (rd l1 ((l0.length - 1 - k' : Nat) : Int)) := by
      rw [h1, show l0.length - k' = (l0.length - 1 - k') + 1 by omega]
      show (if _ then _ else _) = _
      rw [if_neg e3]
    rw [← h2] at hc5
    refine ⟨.int .i64 (cmpAt l0 l1 l0.length), ?_, rfl, hB.trans (belowK_b (w := w) (Nat.le_refl _) W D _ _ (by omega) hK rfl rfl)⟩
    simp [results, Tryz.f33, go_sem, hc5]

theorem natural_number_compare.calls (A0 : Option Addr) (c0 : Nat) (l0 : List Int) (A1 : Option Addr) (c1 : Nat) (l1 : List Int) (r : Int) (w : World) (hr0 : Kd.C (Kd.int .u64) w A0 l0.length l0) (_hc0 : l0.length ≤ c0) (hr1 : Kd.C (Kd.int .u64) w A1 l1.length l1) (_hc1 : l1.length ≤ c1) (h : natural_number_compare.f l0 l1 = some r) :
    Calls Tryz.prog 33 #[.slice A0 l0.length c0, .slice A1 l1.length c1] w fun e w' => e = .returned (.int .i64 r) ∧ Below w.heap.size w w' := by
  unfold natural_number_compare.f cmpL at h
  split at h
  · rename_i hn
    obtain rfl := Option.some.inj h
    split
    · rename_i hl
      rw [← hl] at hr1 ⊢
      exact compare_eq A0 c0 l0 A1 c1 l1 w hl.symm hn.1 hr0 hr1
    · rename_i hl
      exact compare_ne A0 c0 l0 A1 c1 l1 w hl
  · cases h
end Go.Proofs.YtdojfnjgipeogaaGreatDoor
