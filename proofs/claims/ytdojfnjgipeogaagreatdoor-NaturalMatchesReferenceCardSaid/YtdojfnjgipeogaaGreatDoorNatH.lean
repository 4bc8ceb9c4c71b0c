/- A slice of limbs whose block is known to lie beyond a mark; a fresh row of one limb; append and calls within a round. -/
import Derived.Test.YtdojfnjgipeogaaGreatDoorNatG
import Derived.Test.YtdojfnjgipeogaaGreatDoorNatV
namespace Go.Proofs.YtdojfnjgipeogaaGreatDoor
open Go.RowKit Go.Shelf Go.Proofs.YtdojfnjgipeogaaGreatDoorW.PrintWords Go.Proofs.YtdojfnjgipeogaaGreatDoorW.PrintMore NatB

theorem add_block (ad : Addr) (j : Nat) : (ad.add j).block = ad.block := by unfold Addr.add; split <;> rfl
theorem add_zero (ad : Addr) : ad.add 0 = ad := by unfold Addr.add; rw [if_pos rfl]
theorem C_other {W W' : World} {A : Option Addr} {n : Nat} {xs : List Int} (h : Kd.C (Kd.int .u64) W A n xs) (hk : ∀ ad v, A = some ad → 0 < n → W.cell? ad = some v → W'.heap[ad.block]? = W.heap[ad.block]?) : Kd.C (Kd.int .u64) W' A n xs := by
  have hr := Kd.reads_of_C (d := (0 : Int)) h
  refine Kd.C_of_reads (d := (0 : Int)) ⟨hr.1, hr.2.1, fun hn => ?_⟩
  obtain ⟨ad, e, hc⟩ := hr.2.2 hn
  have h0 := hc 0 hn
  rw [add_zero] at h0
  refine ⟨ad, e, fun j hj => ?_⟩
  rw [show W'.cell? (ad.add j) = W.cell? (ad.add j) from World.cell?_of_block (by rw [add_block]; exact hk ad _ e hn h0)]
  exact hc j hj
/-- The value v reads as the number n, and its block lies beyond lo. -/
def RS (W : World) (lo : Nat) (v : Value) (n : Nat) : Prop := ∃ A c, v = .slice A (limbs n).length c ∧ (limbs n).length ≤ c ∧ Kd.C (Kd.int .u64) W A (limbs n).length (limbs n) ∧ ∀ ad, A = some ad → 0 < (limbs n).length → lo ≤ ad.block
theorem RS.rd {W : World} {lo : Nat} {v : Value} {n : Nat} (h : RS W lo v n) : RD W v n := by
  obtain ⟨A, c, e, hc, hC, _⟩ := h
  exact ⟨A, c, e, hc, hC⟩
theorem RS.nil (W : World) (lo : Nat) : RS W lo (.slice none 0 0) 0 := by
  obtain ⟨A, c, e, hc, hC⟩ := RD.nil W
  injection e with e1 e2 e3
  subst e1 e3
  exact ⟨none, 0, by rw [limbs_zero]; rfl, hc, hC, fun ad h => by cases h⟩
theorem RS.move {W W' : World} {lo : Nat} {v : Value} {n : Nat} (h : RS W lo v n) (hk : ∀ k o, lo ≤ k → W.heap[k]? = some o → o.isCells = true → W'.heap[k]? = W.heap[k]?) : RS W' lo v n := by
  obtain ⟨A, c, e, hc, hC, hA⟩ := h
  refine ⟨A, c, e, hc, C_other hC (fun ad v he hn hv => ?_), hA⟩
  obtain ⟨o, ho, hco⟩ := cells_of_cell hv
  exact hk _ o (hA ad he hn) ho hco
theorem RS.below {W W' : World} {lo : Nat} {v : Value} {n : Nat} (h : RS W lo v n) (hb : Below W.heap.size W W') : RS W' lo v n :=
  h.move (fun k _ _ ho _ => hb.block k (Array.getElem?_eq_some_iff.1 ho).1)
theorem RS.setCell {W : World} {lo : Nat} {v : Value} {n : Nat} (h : RS W lo v n) {p : Nat} (hp : p < lo) (o : Nat) (u : Value) : RS (W.setCell ⟨p, o, none⟩ u) lo v n :=
  h.move (fun k _ hk _ _ => Below.heap_setCell _ _ _ _ (by show k ≠ p; omega))
theorem RS.grown {W W' : World} {lo : Nat} {v : Value} {n : Nat} {row : Option Nat} (h : RS W lo v n) (hg : W.grownBy W' row) (hr : ∀ r, row = some r → ∃ o : Obj, W.heap[r]? = some o ∧ o.isCells = false) : RS W' lo v n :=
  h.move (fun _ _ _ ho hc => grownBy_keeps_cells hg hr ho hc)
theorem RS.of_V {W : World} {lo : Nat} {v : Value} {n : Nat} {b : Nat} {ok : Nat → Prop} (h : Kd.V (Kd.int .u64) 54 W b ok v (limbs n)) (hok : ∀ k, ok k → lo ≤ k) : RS W lo v n := by
  obtain ⟨A, c, e, hc, hF⟩ := h
  have hC := hF W (fun _ _ _ => rfl)
  refine ⟨A, c, e, hc, hC, fun ad hA hn => ?_⟩
  rcases Nat.lt_or_ge ad.block lo with hlt | hge
  · exfalso
    have h2 := hF (W.putObj ad.block (.deferred none)) (fun k hk _ => World.putObj_heap_other (fun e => by have := hok k hk; omega))
    obtain ⟨ad1, e1, hc1⟩ := (Kd.reads_of_C (d := (0 : Int)) h2).2.2 hn
    obtain ⟨ad2, e2, hc2⟩ := (Kd.reads_of_C (d := (0 : Int)) hC).2.2 hn
    rw [hA] at e1 e2
    cases e1
    cases e2
    have a1 := hc1 0 hn
    have a2 := hc2 0 hn
    rw [add_zero] at a1 a2
    have hs := World.block_lt_of_cell? W _ a2
    obtain ⟨o, ho, hco⟩ := cells_of_cell a1
    rw [World.putObj_heap_same hs] at ho
    cases ho
    cases hco
  · exact hge
theorem RS.le {W : World} {lo lo' : Nat} {v : Value} {n : Nat} (h : RS W lo v n) (hl : lo' ≤ lo) : RS W lo' v n := by
  obtain ⟨A, c, e, hc, hC, hA⟩ := h
  exact ⟨A, c, e, hc, hC, fun ad h1 h2 => Nat.le_trans hl (hA ad h1 h2)⟩
theorem subS (W : World) (v0 v1 : Value) (a b : Nat) (h0 : RD W v0 a) (h1 : RD W v1 b) (hl : (limbs a).length + (limbs b).length ≤ 100000) (hab : b ≤ a) :
    Calls Tryz.prog 41 #[v0, v1] W fun e w' => ∃ v, e = .returned v ∧ RS w' W.heap.size v (a - b) ∧ Below W.heap.size W w' := by
  obtain ⟨A0, c0, rfl, hc0, h0⟩ := h0
  obtain ⟨A1, c1, rfl, hc1, h1⟩ := h1
  obtain ⟨k, hk⟩ := sub_law a b hab (by omega)
  refine (In.natural_number_sub.calls k A0 c0 _ A1 c1 _ _ W h0 hc0 h1 hc1 hk).mono ?_
  rintro e w' ⟨v, rfl, hV, hb⟩
  exact ⟨v, rfl, RS.of_V hV (fun _ hk => hk), hb⟩
theorem RD.grown {W W' : World} {v : Value} {n : Nat} {row : Option Nat} (h : RD W v n) (hg : W.grownBy W' row) (hr : ∀ r, row = some r → ∃ o : Obj, W.heap[r]? = some o ∧ o.isCells = false) : RD W' v n := by
  obtain ⟨A, c, e, hc, hC⟩ := h
  refine ⟨A, c, e, hc, C_other hC (fun ad v he hn hv => ?_)⟩
  obtain ⟨o, ho, hco⟩ := cells_of_cell hv
  exact grownBy_keeps_cells hg hr ho hco
theorem wp_then {P : Program} {c : Code} {K : Act → World → Prop} {Q : Exit → Act → World → Prop} {a : Act} {w : World} (h : c.wp P (Exit.then K (fun _ _ _ => False)) a w) : c.wp P (Exit.then K Q) a w :=
  Code.wp_mono (fun e _ _ h => by cases e <;> first | exact h | exact h.elim) h
/-- A fresh row of one limb. -/
theorem litR (W : World) (base : Nat) (x : Int) (hb : base ≤ W.heap.size) : Kd.R (Kd.int .u64) 54 (W.alloc (.cells #[.int .u64 x] 54)) base (fun k => W.heap.size ≤ k) (.slice (some ⟨W.heap.size, 0, none⟩) 1 1) [x] := by
  refine Kd.R_of_own ⟨rfl, .inr ⟨W.heap.size, 1, #[.int .u64 x], rfl, hb, World.alloc_heap_new W _, Nat.le_refl _, by unfold maxLen; omega, rfl, rfl⟩⟩ (fun k hk => ?_)
  have : W.heap.size = k := by simpa [Value.ownBlock] using hk
  omega
theorem C_of_R {W : World} {base : Nat} {ok : Nat → Prop} {v : Value} {xs : List Int} (h : Kd.R (Kd.int .u64) 54 W base ok v xs) : ∃ A c, v = .slice A xs.length c ∧ xs.length ≤ c ∧ Kd.C (Kd.int .u64) W A xs.length xs := by
  obtain ⟨A, c, e, hc, hF⟩ := Kd.R_V (base' := base) h
  exact ⟨A, c, e, hc, hF W (fun _ _ _ => rfl)⟩
theorem ownR_grown {W W' : World} {base g : Nat} {v : Value} {xs : List Int} {row : Option Nat} (h : Kd.R (Kd.int .u64) 54 W base (fun k => k = g) v xs) (hv : v.ownBlock = some g) (hg : W.grownBy W' row) (hr : ∀ r, row = some r → ∃ o : Obj, W.heap[r]? = some o ∧ o.isCells = false) :
    Kd.R (Kd.int .u64) 54 W' base (fun k => k = g) v xs := by
  obtain ⟨inner, ho⟩ := Kd.R_own h
  obtain ⟨cells, hc⟩ := own_typed ho g hv
  exact Kd.R_step h (fun k hk _ => by subst hk; exact grownBy_keeps_cells hg hr hc rfl)
/-- A step of the body: what is no memory cell lies as it lay, and so does all below b. -/
def St (b : Nat) (W W' : World) : Prop := KeepsOthers W W' ∧ Below b W W'
theorem St.trans {b : Nat} {A B C : World} (h : St b A B) (k : St b B C) : St b A C := ⟨h.1.trans k.1, h.2.trans k.2⟩
theorem St.of_below {b : Nat} {W W' : World} (hb : b ≤ W.heap.size) (h : Below W.heap.size W W') : St b W W' :=
  ⟨⟨h.size, fun k _ hk _ => (h.block k (Array.getElem?_eq_some_iff.1 hk).1).trans hk⟩, h.mono hb⟩
theorem St.setCell {b : Nat} (W : World) {p : Nat} (hp : b ≤ p) (o : Nat) (v : Value) : St b W (W.setCell ⟨p, o, none⟩ v) :=
  ⟨KeepsOthers.setCell W _ v, (Below.refl b W).setCell (p := ⟨p, o, none⟩) hp v⟩
theorem St.grown {b : Nat} {W W' : World} {row : Option Nat} (hb : b ≤ W.heap.size) (hg : W.grownBy W' row) (hr : ∀ k, row = some k → b ≤ k) (hc : ∀ (j : Nat) (o : Obj), row = some j → W.heap[j]? = some o → o.isCells = true) : St b W W' :=
  ⟨KeepsOthers.of_grownBy hg hc, (Below.refl b W).grown hg hb hr⟩
theorem Boxed.below {W W' : World} {B t : Nat} {v : Value} (h : Boxed W B t v) (hb : Below W.heap.size W W') : Boxed W' B t v := (hb.block B h.lt).trans h

/-- One operation of a plain region, within a round. -/
theorem wpListIn_step {l n : Nat} {P : Program} {ops : Array Oper} {Q : Exit → Act → World → Prop} {o : Oper} {rest : List Oper} {a : Act} {w : World} (hd : ∀ c, o.op ≠ .defer c) (hno : ¬ LetsOut Q)
    (h : wpList P ops (Exit.then (fun a' w' => wpListIn (Fence.wide.inRound l) n P ops Q rest a' w') Q) [o] a w) : wpListIn (Fence.wide.inRound l) n P ops Q (o :: rest) a w := by
  unfold wpList at h
  unfold wpListIn
  split
  · rename_i hw
    rw [if_pos hw] at h
    rcases h with h | h
    · have h2 := oper_wpIn_of_wp (l := l) (n := n) hd h
      refine ⟨h2.1, ?_⟩
      have h3 := h2.2
      generalize Sem.run P (Oper.semAt (Fence.wide.inRound l).round a.eval o) w = r at *
      exact (show _ → _ from fun h => by
        cases r with
        | ok x w' =>
          cases x <;> simp only [Oper.uponIn] at h ⊢
          all_goals first | exact h | exact ⟨h.1, CallsIn.mono h.2 (fun e w'' he => by cases e <;> first | exact he | exact absurd he (noOut_then hno))⟩ | exact ⟨h.1, h.2⟩
        | halt x w' => cases x <;> simp only [Oper.uponIn] at h ⊢ <;> exact h) h3
    · exact absurd h.2 (noOut_then hno)
  · rename_i hw
    rw [if_neg hw] at h
    exact ⟨fun _ _ => trivial, h⟩
end Go.Proofs.YtdojfnjgipeogaaGreatDoor
