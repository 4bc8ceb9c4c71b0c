/- (number).div: the limbs from the last one down; of each the greatest digit that goes. -/
import Derived.Test.YtdojfnjgipeogaaGreatDoorNatH
import Derived.Shelf.RegionOpen
namespace Go.Proofs.YtdojfnjgipeogaaGreatDoor
open Go.RowKit Go.Shelf Go.Proofs.YtdojfnjgipeogaaGreatDoorW.PrintWords Go.Proofs.YtdojfnjgipeogaaGreatDoorW.PrintMore NatB
attribute [local go_sem] Oper.semAt_some

theorem qform {W : World} {base L : Nat} {ok : Nat → Prop} {v : Value} {xs : List Int} (h : Kd.R (Kd.int .u64) 54 W base ok v xs) (hn : ∃ b, v.ownBlock = some b ∧ L ≤ b) : ∃ g c, v = .slice (some ⟨g, 0, none⟩) xs.length c ∧ L ≤ g ∧ g < W.heap.size ∧ Kd.R (Kd.int .u64) 54 W base (fun k => k = g) v xs := by
  obtain ⟨inner, ho⟩ := Kd.R_own h
  obtain ⟨b, hb, hL⟩ := hn
  have hlt := ho.lt b hb
  rcases ho.2 with ⟨rfl, _⟩ | ⟨g, cap, cur, rfl, _⟩
  · cases hb
  · have : g = b := by simpa [Value.ownBlock] using hb
    subst this
    exact ⟨g, cap, rfl, hL, hlt.2, Kd.R_reok rfl h (fun k hk => by simpa [Value.ownBlock] using hk.symm)⟩

set_option maxRecDepth 100000 in
set_option maxHeartbeats 4000000 in
theorem div_walk (A0 : Option Addr) (c0 : Nat) (l0 : List Int) (A1 : Option Addr) (c1 n1 : Nat) (M : Nat) (w : World) (hn0 : l0.length ≤ 10000) (hv : vl l0) (hr0 : Kd.C (Kd.int .u64) w A0 l0.length l0) (hM : RD w (.slice A1 n1 c1) M) (hM0 : 0 < M) (lM : (limbs M).length ≤ 10000) :
    Calls Tryz.prog 25 #[.slice A0 l0.length c0, .slice A1 n1 c1] w fun e w' => ∃ v0 v1, e = .returned (.tuple #[v0, v1]) ∧ RD w' v0 (numL (dF l0 M (dn l0.length l0.length)).2) ∧ RD w' v1 (dF l0 M (dn l0.length l0.length)).1 ∧ Below w.heap.size w w' := by
  have HR0 := Lib.hid hr0
  have HM := Lib.hid hM
  have HM0 := Lib.hid hM0
  have LM := Lib.hid lM
  have HV := Lib.hid hv
  have HFIN := Lib.hid (div_fin l0 hv M hM0)
  clear hr0 hM hM0 lM hv
  have hmx : Tryz.prog.follows .mixedOrders = true := by kernel_rfl
  refine (callsIn_wide (n := 5)).1 ?_
  refine callsIn_of_wp_marks Tryz.func25 rfl trivial ?_ rfl
  simp only [Tryz.ntmps25, List.size_toArray, List.length_cons, List.length_nil, Nat.reduceAdd, Nat.reduceSub, Array.replicate_succ, Array.replicate_zero, List.push_toArray, List.append_toArray, List.nil_append, List.cons_append]
  refine wpIn_wide.2 ?_
  go_wp2_with (first | ((with_reducible refine gate_dst (N := 13) rfl ?_); refine Kd.R_make (Kd.int .u64) (w0 := w) w.heap.size 54 rfl (N := 13) rfl 36 _ _ rfl (l0.length : Int) rfl rfl Tryz.underlying36 (.int .u64 0) 8 In.info54 rfl (by decide) (by omega) 0 (ok := fun _ => True) (okp := fun _ => True) rfl (fun _ hk => hk) trivial (by omega) (by omega) (below_alloc (Below.refl _ _) _) (by simp) ?_; intro v1 w1 ho1 hb1 hg1 hnew1; have hbx0 := (Boxed.new w 36 (.slice A1 n1 c1)).kept hg1 (by simp); obtain ⟨gq, cq, rfl, hgq, hgq1, hoq⟩ := qform ho1 hnew1) | (go_at_call 47; refine (callsIn_wide.1 (back_in Fence.wide 5 trivial rfl _ _ _ _)).mono ?_; rintro e w' ⟨rfl, rfl⟩))
  simp only [Int.toNat_natCast, List.length_replicate] at hoq
  clear ho1 hnew1 hg1
  have b0 : Boxed w1 w.heap.size 36 (.slice A1 n1 c1) := hbx0
  clear hbx0
  have b1 := ((Boxed.new w1 36 (.slice (some ⟨gq, 0, none⟩) l0.length cq)).alloc (.cells #[.slice none 0 0] 36)).alloc (.cells #[.slice A0 l0.length c0] 36)
  have b2 := (Boxed.new (w1.alloc (.cells #[.slice (some ⟨gq, 0, none⟩) l0.length cq] 36)) 36 (.slice none 0 0)).alloc (.cells #[.slice A0 l0.length c0] 36)
  have b3 := Boxed.new ((w1.alloc (.cells #[.slice (some ⟨gq, 0, none⟩) l0.length cq] 36)).alloc (.cells #[.slice none 0 0] 36)) 36 (.slice A0 l0.length c0)
  rw [World.size_alloc] at b2 b3
  rw [World.size_alloc] at b3
  replace b0 := ((b0.alloc (.cells #[.slice (some ⟨gq, 0, none⟩) l0.length cq] 36)).alloc (.cells #[.slice none 0 0] 36)).alloc (.cells #[.slice A0 l0.length c0] 36)
  have hB0 : Below w.heap.size w (((w1.alloc (.cells #[.slice (some ⟨gq, 0, none⟩) l0.length cq] 36)).alloc (.cells #[.slice none 0 0] 36)).alloc (.cells #[.slice A0 l0.length c0] 36)) :=
    hb1.trans ((below_alloc (below_alloc (below_alloc (Below.refl _ _) _) _) _).mono hb1.size)
  have hq0 : Kd.R (Kd.int .u64) 54 (((w1.alloc (.cells #[.slice (some ⟨gq, 0, none⟩) l0.length cq] 36)).alloc (.cells #[.slice none 0 0] 36)).alloc (.cells #[.slice A0 l0.length c0] 36)) w.heap.size (fun k => k = gq) (.slice (some ⟨gq, 0, none⟩) l0.length cq) (dF l0 M []).2 :=
    Kd.R_below hoq (below_alloc (below_alloc (below_alloc (Below.refl _ _) _) _) _)
  have hr0 := RS.nil (((w1.alloc (.cells #[.slice (some ⟨gq, 0, none⟩) l0.length cq] 36)).alloc (.cells #[.slice none 0 0] 36)).alloc (.cells #[.slice A0 l0.length c0] 36)) (w1.heap.size + 3)
  have hs0 : (((w1.alloc (.cells #[.slice (some ⟨gq, 0, none⟩) l0.length cq] 36)).alloc (.cells #[.slice none 0 0] 36)).alloc (.cells #[.slice A0 l0.length c0] 36)).heap.size = w1.heap.size + 3 := by simp
  obtain ⟨W0, hW0⟩ : ∃ W0, (((w1.alloc (.cells #[.slice (some ⟨gq, 0, none⟩) l0.length cq] 36)).alloc (.cells #[.slice none 0 0] 36)).alloc (.cells #[.slice A0 l0.length c0] 36)) = W0 := ⟨_, rfl⟩
  have hw1 := hb1.size
  obtain ⟨N, hN⟩ : ∃ N, w1.heap.size = N := ⟨_, rfl⟩
  rw [hW0] at b0 b1 b2 b3 hB0 hq0 hr0 hs0 ⊢
  rw [hN] at b1 b2 b3 hr0 hs0 hgq1 hw1 ⊢
  simp only [World.size_alloc] at hgq
  clear hW0 hN hoq hb1 w1
  refine (wpIn_wide (n := 5)).1 ?_
  refine wpIn_rangeFunc_ownG rfl (by omega) (gf := 73) (lb := #[.pointer (some ⟨N + 1 + 1, 0, none⟩)]) rfl trivial (enters_of Tryz.func73 (by kernel_rfl) rfl)
    (back_stops Fence.wide _ trivial rfl (by omega) (N + 1 + 1) w.heap.size A0 c0 l0 (by omega) W0 (by omega) (by omega) b3.cell (fun W' hb => Kd.C_below HR0.out (hB0.trans hb))) kpB_t (kpB_b (by omega) (by omega)) (Below.refl _ _) (fun _ => rfl)
    (fun pre W => ((Boxed W w.heap.size 36 (.slice A1 n1 c1) ∧ Boxed W N 36 (.slice (some ⟨gq, 0, none⟩) l0.length cq) ∧ Boxed W (N + 1 + 1) 36 (.slice A0 l0.length c0)) ∧ (∃ vr, Boxed W (N + 1) 36 vr ∧ RS W (N + 3) vr (dF l0 M pre).1) ∧
      Kd.R (Kd.int .u64) 54 W w.heap.size (fun k => k = gq) (.slice (some ⟨gq, 0, none⟩) l0.length cq) (dF l0 M pre).2 ∧ N + 3 ≤ W.heap.size) ∧ Below w.heap.size w W)
    (fun _ _ _ => False)
    (OwnFrom.and (Own.from (fun s A B row hs hg hr => by
      obtain ⟨⟨h0, h1, h3⟩, ⟨vr, h2, hR⟩, hQ, hS⟩ := hs
      exact ⟨⟨boxed_own (β := Unit) _ _ (fun _ => _) () _ _ _ h0 hg hr, boxed_own (β := Unit) _ _ (fun _ => _) () _ _ _ h1 hg hr, boxed_own (β := Unit) _ _ (fun _ => _) () _ _ _ h3 hg hr⟩,
        ⟨vr, boxed_own (β := Unit) _ _ (fun _ => _) () _ _ _ h2 hg hr, hR.grown hg hr⟩, ownR_grown hQ rfl hg hr, Nat.le_trans hS hg.size⟩) _) (ownFrom_below (Nat.le_refl _) (by omega)))
    (fun _ _ _ _ _ hs _ _ => hs)
    ⟨⟨⟨b0, b1, b3⟩, ⟨_, b2, hr0⟩, hq0, by omega⟩, hB0⟩
    (fun x => { tmps := #[.slice A0 l0.length c0, .slice A1 n1 c1, undef, .pointer (some ⟨w.heap.size, 0, none⟩), .slice none 0 0, .slice none 0 0, .pointer (some ⟨N, 0, none⟩), .pointer (some ⟨N + 1, 0, none⟩), .int .i64 ((x : Nat) : Int), .int .u64 (rd l0 ((x : Nat) : Int)), undef,
        .slice A0 l0.length c0, .int .i64 (l0.length : Int), .slice (some ⟨gq, 0, none⟩) l0.length cq, .slice A0 l0.length c0, .func (.func 73) #[] #[.pointer (some ⟨N + 1 + 1, 0, none⟩)], .int .i64 ((x : Nat) : Int), .int .u64 (rd l0 ((x : Nat) : Int)),
        undef, undef, undef, undef, undef, undef, undef, undef, undef, undef, undef, undef, undef, undef, undef, undef, undef, undef, undef, undef, undef, undef, undef, undef, undef, undef], defers := [] }) ?assign ?body ?done ?stop
  case assign =>
    intro l x W K hK
    gi_wp2
    exact hK
  case stop =>
    rintro D c pre W hD _ hF
    exact hF.elim
  case body =>
    rintro l pre x W ⟨⟨⟨h0, h1, h3⟩, ⟨vr, h2, hR⟩, hQ, hS⟩, hB⟩ hlen
    have hx := vl_rd HV.out x.isLt
    have hRlt := dF_lt l0 M HM0.out pre
    have hTlt := dT_lt l0 HV.out M _ hRlt x
    have hsn := dF_snoc l0 M pre x
    have hql := dF_len l0 M pre
    have hlenR : (limbs (dF l0 M pre).1).length ≤ 10000 := Nat.le_trans (limbs_len_le (Nat.le_of_lt hRlt)) LM.out
    obtain ⟨Ar, cr, rfl, hcr, hCr, hAr⟩ := id hR
    have HSN := Lib.hid hsn
    have HX := Lib.hid hx
    have HRL := Lib.hid hRlt
    have HTL := Lib.hid hTlt
    clear hsn hx hRlt hTlt
    generalize hs : (dF l0 M pre) = s at *
    have hc2 := (h2.alloc (.cells #[.int .u64 (rd l0 ((x : Nat) : Int))] 54)).cell
    have hlr := litR W w.heap.size (rd l0 ((x : Nat) : Int)) hB.size
    have hCr1 := Kd.C_below hCr (below_alloc (Below.refl _ _) (.cells #[.int .u64 (rd l0 ((x : Nat) : Int))] 54))
    have hB1 := below_alloc hB (.cells #[.int .u64 (rd l0 ((x : Nat) : Int))] 54)
    gi_wp2_with (gi_at_builtin; refine wpListIn_step (fun c h => by cases h) (by first | exact noOut_then (noOut_inBlock noOut_ownPostG) | exact noOut_then (noOut_then (noOut_inBlock noOut_ownPostG)) | exact noOut_then (noOut_then (noOut_then (noOut_inBlock noOut_ownPostG)))) ?_; refine Kd.R_append_row (Value.int .u64) (0 : Int) (h1 := fun _ => rfl) (w0 := w) w.heap.size rfl (.tmp 19) (.tmp 20) 36 54 (.int .u64 0) 8 rfl Tryz.underlying36 In.info54 rfl (by decide) (.slice (some ⟨W.heap.size, 0, none⟩) 1 1) [rd l0 ((x : Nat) : Int)] (limbs s.1) Ar (limbs s.1).length cr (fun k => W.heap.size ≤ k) rfl rfl (fun k hk => by rw [World.size_alloc] at hk; omega) hlr hCr1 hB1 (by rw [World.size_alloc]; have := hB.size; omega) (by simp only [List.length_singleton]; omega) ?_; intro v1 w1 ho1 hb1 hg1 hat1; obtain ⟨g1, k1, rfl, hgb1, hgs1, _⟩ := Kd.R_form ho1 (by simp); change wpListIn (Fence.wide.inRound l) _ _ _ _ _ _ _)
    have hW1 : W.heap.size + 1 ≤ w1.heap.size := by have := hg1.size; rwa [World.size_alloc] at this
    have k0 := (h0.alloc (.cells #[.int .u64 (rd l0 ((x : Nat) : Int))] 54)).kept hg1 (by have := h0.lt; simp [Value.ownBlock]; omega)
    have k1_ := (h1.alloc (.cells #[.int .u64 (rd l0 ((x : Nat) : Int))] 54)).kept hg1 (by have := h1.lt; simp [Value.ownBlock]; omega)
    have k2 := (h2.alloc (.cells #[.int .u64 (rd l0 ((x : Nat) : Int))] 54)).kept hg1 (by have := h2.lt; simp [Value.ownBlock]; omega)
    have k3 := (h3.alloc (.cells #[.int .u64 (rd l0 ((x : Nat) : Int))] 54)).kept hg1 (by have := h3.lt; simp [Value.ownBlock]; omega)
    have kQ := Kd.R_grown (Kd.R_below hQ (below_alloc (Below.refl _ _) (.cells #[.int .u64 (rd l0 ((x : Nat) : Int))] 54))) hg1 (fun k hk => by subst hk; simp [Value.ownBlock]; omega)
    have H3 := Lib.hid h3
    have hst1 : St w.heap.size W w1 := (St.of_below hB.size (below_alloc (Below.refl _ _) (.cells #[.int .u64 (rd l0 ((x : Nat) : Int))] 54))).trans
      (St.grown (by rw [World.size_alloc]; have := hB.size; omega) hg1 (fun k hk => by have := hB.size; simp [Value.ownBlock] at hk; omega) (fun j o hj ho => by
        simp [Value.ownBlock] at hj; subst hj; rw [World.alloc_heap_new] at ho; cases ho; rfl))
    clear h0 h1 h2 h3 hQ hR hCr hAr hc2 hlr hCr1 hB1 hg1 hat1
    have hVt := Kd.R_V (base' := w1.heap.size) (Kd.R_mono ho1 (ok' := fun k => N + 3 ≤ k) (fun k hk => Nat.le_trans hS hk))
    have hnum : numL ([rd l0 ((x : Nat) : Int)] ++ limbs s.1) = dT l0 s.1 x := by rw [List.singleton_append]; show _ + _ * numL (limbs s.1) = _; rw [num_limbs]; rfl
    have htrim := trim_law ([rd l0 ((x : Nat) : Int)] ++ limbs s.1) (vl_append (vl_one HX.out.1 HX.out.2) (vl_limbs _)) (by simp; omega) ((limbs s.1).length + 2) (by simp)
    rw [hnum] at htrim
    refine ⟨trivial, ?_⟩
    refine (CallsIn.inRound l (callsIn_wide.2 (In.natural_number_trim.calls _ _ _ _ _ _ _ hVt htrim))).mono ?_
    rintro e w2 ⟨v2, rfl, hV2, hb2⟩
    have hR2 := RS.of_V (lo := N + 3) hV2 (fun k hk => hk.elim id (fun h => by omega))
    have hst2 := hst1.trans (St.of_below (by have := hB.size; omega) hb2)
    obtain ⟨A2, c2, rfl, _⟩ := id hR2
    have m0 := Boxed.below k0 hb2
    have m1 := Boxed.below k1_ hb2
    have m2 := Boxed.below k2 hb2
    have m3 := Boxed.below k3 hb2
    have mQ := Kd.R_below kQ hb2
    have hw2 : W.heap.size + 1 ≤ w2.heap.size := Nat.le_trans hW1 hb2.size
    clear k0 k1_ k2 k3 kQ hVt ho1 hb1 hgb1 hgs1 hV2 hb2 hst1 hW1
    have mc := m2.cell
    have mf := m2.frozen
    have p2 := Boxed.set (.slice A2 (limbs (dT l0 s.1 x)).length c2) m2
    have p0 := m0.other (B' := N + 1) (by omega) (.slice A2 (limbs (dT l0 s.1 x)).length c2)
    have p1 := m1.other (B' := N + 1) (by omega) (.slice A2 (limbs (dT l0 s.1 x)).length c2)
    have p3 := m3.other (B' := N + 1) (by omega) (.slice A2 (limbs (dT l0 s.1 x)).length c2)
    have pQ := Kd.R_step mQ (w1 := w2.setCell ⟨N + 1, 0, none⟩ (.slice A2 (limbs (dT l0 s.1 x)).length c2)) (fun k hk _ => Below.heap_setCell _ _ _ _ (by show k ≠ N + 1; omega))
    have pR := hR2.setCell (p := N + 1) (by omega) 0 (.slice A2 (limbs (dT l0 s.1 x)).length c2)
    have hst3 := hst2.trans (St.setCell w2 (p := N + 1) (by omega) 0 (.slice A2 (limbs (dT l0 s.1 x)).length c2))
    have hs3 : (w2.setCell ⟨N + 1, 0, none⟩ (.slice A2 (limbs (dT l0 s.1 x)).length c2)).heap.size = w2.heap.size := by simp
    have pc2 := p2.cell
    have pc0 := p0.cell
    have hlT : (limbs (dT l0 s.1 x)).length ≤ (limbs M).length + 1 := limbs_len_lt (by
      refine Nat.lt_of_lt_of_le HTL.out ?_
      have h1 := numL_lt (vl_limbs M)
      rw [num_limbs] at h1
      rw [Nat.pow_succ]
      exact Nat.mul_le_mul_right _ (Nat.le_of_lt h1))
    have hMW := HM.out.below (hB.trans hst3.2)
    have hcmp := cmpC _ _ _ _ _ pR.rd hMW (by have := LM.out; omega) (by have := LM.out; omega)
    have hcn := cmpI_neg (dT l0 s.1 x : Int) (M : Int)
    generalize hT : dT l0 s.1 x = T at *
    by_cases hlt : T < M
    · have hd : decide (cmpI (T : Int) (M : Int) < 0) = true := by rw [hcn]; exact decide_eq_true (by omega)
      have HD := Lib.hid hd
      clear hd
      gi_wp2_with (refine ⟨trivial, ?_⟩; gi_at_call 33; refine (CallsIn.inRound l (callsIn_wide.2 hcmp)).mono ?_; rintro e w4 ⟨rfl, hb4⟩)
      have hst4 := hst3.trans (St.of_below (by omega) hb4)
      have hsn : dF l0 M (pre ++ [x]) = (T, s.2) := by
        rw [HSN.out]; unfold dStep; rw [hT, if_pos hlt]
      refine ⟨hst4.1.from _, ⟨hst4.2, (Boxed.below p3 hb4).trans H3.out.symm⟩, ?_, hB.trans hst4.2⟩
      rw [hsn]
      exact ⟨⟨Boxed.below p0 hb4, Boxed.below p1 hb4, Boxed.below p3 hb4⟩, ⟨_, Boxed.below p2 hb4, pR.below hb4⟩, Kd.R_below pQ hb4, by have := hb4.size; omega⟩
    · have hd : decide (cmpI (T : Int) (M : Int) < 0) = false := by rw [hcn]; exact decide_eq_false (by omega)
      have HD := Lib.hid hd
      clear hd
      gi_wp2_with (refine ⟨trivial, ?_⟩; gi_at_call 33; refine (CallsIn.inRound l (callsIn_wide.2 hcmp)).mono ?_; rintro e w4 ⟨rfl, hb4⟩)
      have hst4 := hst3.trans (St.of_below (by omega) hb4)
      have hs4 : w2.heap.size ≤ w4.heap.size := by have := hb4.size; omega
      have q0 := Boxed.below p0 hb4
      have q1 := Boxed.below p1 hb4
      have q2 := Boxed.below p2 hb4
      have q3 := Boxed.below p3 hb4
      have qQ := Kd.R_below pQ hb4
      have qR := pR.below hb4
      have qM := HM.out.below (hB.trans hst4.2)
      clear p0 p1 p2 p3 pQ pR hb4 hst3 hcmp hMW m0 m1 m2 m3 mQ mc mf pc2 pc0 hst2 hR2 hcn
      have hlk : ∀ i : Nat, i ≤ 999999999 → (limbs (M * i)).length ≤ (limbs M).length + 1 := fun i hi => limbs_len_lt (by
        have h1 := numL_lt (vl_limbs M)
        rw [num_limbs] at h1
        rw [Nat.pow_succ]
        exact Nat.mul_lt_mul_of_lt_of_le h1 (by omega) (by omega))
      have hse := searchC 49 #[.pointer (some ⟨w.heap.size, 0, none⟩), .pointer (some ⟨N + 1, 0, none⟩)] 999999999 (fun i => decide (T < M * (i + 1))) w4 (enters_of Tryz.func49 (by kernel_rfl) rfl) (by omega)
        (fun W' i hb hi => divkC W' w.heap.size (N + 1) _ _ M T i (Boxed.below q0 hb).cell (Boxed.below q2 hb).cell (qM.below hb) (qR.rd.below hb) (by have := LM.out; omega) (by have := LM.out; omega) (by have := LM.out; have := hlk (i + 1) (by omega); omega) hi)
        (fun a b hab _ ha => by
          have h1 := of_decide_eq_true ha
          exact decide_eq_true (Nat.lt_of_lt_of_le h1 (Nat.mul_le_mul_left _ (by omega))))
      rw [show ((999999999 : Nat) : Int) = 999999999 from rfl] at hse
      refine ⟨trivial, ?_⟩
      refine (CallsIn.inRound l (callsIn_wide.2 hse)).mono ?_
      clear hse
      rintro e w5 ⟨⟨r, rfl, hr1, hr2, hr3⟩, hb5⟩
      have hdr := digit_of_search T M r HM0.out HTL.out hr1 hr2 hr3
      have hdl := digit_lt T M HM0.out HTL.out
      have hlkr := hlk r hr1
      have hTr : T % M = T - M * r := by rw [← hdr]; have := Nat.div_add_mod T M; omega
      have hle : M * r ≤ T := by rw [← hdr]; exact Nat.mul_div_le T M
      rw [hdr] at hdl
      have hst5 := hst4.trans (St.of_below (by omega) hb5)
      have hs5 : w2.heap.size ≤ w5.heap.size := by have := hb5.size; omega
      have r0 := Boxed.below q0 hb5
      have r1 := Boxed.below q1 hb5
      have r2 := Boxed.below q2 hb5
      have r3 := Boxed.below q3 hb5
      have rQ := Kd.R_below qQ hb5
      have rR := qR.below hb5
      have hsn : dF l0 M (pre ++ [x]) = (T - M * r, s.2.set x ((r : Nat) : Int)) := by
        rw [HSN.out]; unfold dStep; rw [hT, if_neg hlt, hdr, hTr]
      have hrp : 0 < r := by rw [← hdr]; exact Nat.div_pos (by omega) HM0.out
      have HSN2 := Lib.hid hsn
      have HLK := Lib.hid hlkr
      have HLE := Lib.hid hle
      clear q0 q1 q2 q3 qQ qR hb5 hst4 hr2 hr3 hdr hlk hsn hlkr hTr hle HSN hlt
      have hwr : IntKind.u64.wrap (r : Int) = (r : Int) := wu64 (by omega) (by omega)
      obtain ⟨hxc, hxf⟩ := Kd.R_celln (0 : Int) rQ ((x : Nat) : Int) (by omega) (by omega)
      rw [Int.toNat_natCast] at hxc hxf
      have rc1 := r1.cell
      have hxlt : ((x : Nat) : Int) < (l0.length : Int) := by omega
      have hx0 : (0 : Int) ≤ ((x : Nat) : Int) := by omega
      gi_wp2
      have hput := Kd.R_putg rQ ((x : Nat) : Int) ((r : Nat) : Int)
      rw [Int.toNat_natCast] at hput
      have t0 := r0.kept hput.2 (by intro h; injection h; omega)
      have t1 := r1.kept hput.2 (by intro h; injection h; omega)
      have t2 := r2.kept hput.2 (by intro h; injection h; omega)
      have t3 := r3.kept hput.2 (by intro h; injection h; omega)
      have tQ := hput.1
      have tR := rR.setCell (p := gq) (by omega) ((x : Nat)) (.int .u64 (r : Int))
      have hst6 := hst5.trans (St.setCell w5 (p := gq) (by omega) ((x : Nat)) (.int .u64 (r : Int)))
      have hs6 : w2.heap.size ≤ (w5.setCell ⟨gq, (x : Nat), none⟩ (.int .u64 (r : Int))).heap.size := by simp; omega
      clear r0 r1 r2 r3 rQ rR hst5 hput hxc hxf rc1
      generalize hW6 : w5.setCell ⟨gq, (x : Nat), none⟩ (.int .u64 (r : Int)) = W6 at *
      have u0 := t0.cell
      have u2 := t2.cell
      have u0a := (t0.alloc (.cells #[.int .u64 (r : Int)] 54)).cell
      have u2a := (t2.alloc (.cells #[.int .u64 (r : Int)] 54)).cell
      have l1 : (limbs r).length ≤ 1 := limbs_len_lt (by omega)
      have hb7 := below_alloc (Below.refl W6.heap.size W6) (.cells #[.int .u64 (r : Int)] 54)
      have a1 := mulC (W6.alloc (.cells #[.int .u64 (r : Int)] 54)).drew _ _ M r ((HM.out.below (hB.trans hst6.2)).below (below_drew hb7)) ((RD.one W6 r hrp (by omega)).below (pw_below_drewN (Below.refl _ _) 1)) (by have := LM.out; omega) trivial
      have TR := Lib.hid tR
      clear tR
      gi_region_with_o (first
        | (refine ⟨trivial, ?_⟩; gi_at_call 43; refine (CallsIn.inRound l (callsIn_wide.2 a1)).mono ?_; rintro e w7 ⟨v7, rfl, hV7, hb7'⟩; have hb7 := below_then (below_drew hb7) (by simp) hb7'; have u7 := (Boxed.below t2 hb7).cell)
        | (refine ⟨trivial, ?_⟩; gi_at_call 41; refine (CallsIn.inRound l (callsIn_wide.2 (subS _ _ _ T (M * r) (TR.out.rd.below hb7) hV7 (by have := LM.out; have := HLK.out; omega) HLE.out))).mono ?_; rintro e w8 ⟨v8, rfl, hV8, hb8'⟩; obtain ⟨A8, c8, rfl, _⟩ := id hV8; have hb8 := below_then hb7 hb7.size hb8'; have u8 := (Boxed.below t2 hb8).cell; have f8 := (Boxed.below t2 hb8).frozen))
      all_goals (
        gi_wp2
        have hs7 := hb7.size
        have hs8 := hb8.size
        have hst8 := hst6.trans ((St.of_below (by omega) hb8).trans (St.setCell w8 (p := N + 1) (by omega) 0 (.slice A8 (limbs (T - M * r)).length c8)))
        refine ⟨hst8.1.from _, ⟨hst8.2, ((Boxed.below t3 hb8).other (by omega) _).trans H3.out.symm⟩, ?_, hB.trans hst8.2⟩
        rw [HSN2.out]
        exact ⟨⟨(Boxed.below t0 hb8).other (by omega) _, (Boxed.below t1 hb8).other (by omega) _, (Boxed.below t3 hb8).other (by omega) _⟩, ⟨_, (Boxed.below t2 hb8).set _, (hV8.le (by omega)).setCell (by omega) 0 _⟩,
          Kd.R_step (Kd.R_below tQ hb8) (fun k hk _ => Below.heap_setCell _ _ _ _ (by show k ≠ N + 1; omega)), by simp; omega⟩)
  case done =>
    rintro D ys W hD rfl ⟨⟨⟨h0, h1, h3⟩, ⟨vr, h2, hR⟩, hQ, hS⟩, hB⟩ hK
    have hql := dF_len l0 M (dn l0.length l0.length)
    generalize hs : (dF l0 M (dn l0.length l0.length)) = s at *
    go_wp2
    have hqv := Kd.R_V (base' := W.drew.heap.size) (Kd.R_below hQ (below_drew (Below.refl W.heap.size W)))
    obtain ⟨hvl, hnum⟩ := HFIN.out
    have htr := trim_law s.2 hvl (by omega) (s.2.length + 1) (by omega)
    have a1 : Calls Tryz.prog 46 #[.slice (some ⟨gq, 0, none⟩) l0.length cq] W.drew fun e w' => ∃ v, e = .returned v ∧ RD w' v (numL s.2) ∧ Below W.heap.size W.drew w' := by
      rw [← hql] at hqv ⊢
      refine (In.natural_number_trim.calls _ _ _ _ _ _ _ hqv htr).mono ?_
      rintro e w' ⟨v, rfl, hV, hb⟩
      exact ⟨v, rfl, RD.of_V hV, hb⟩
    have c1' := h1.cell
    have c2' := h2.cell
    have HR := Lib.hid hR.rd
    clear hqv htr hvl hnum hR hQ h0 h3
    refine wp_then ?_
    go_region_held (fun W' => W'.cell? ⟨N, 0, none⟩ = some (.slice (some ⟨gq, 0, none⟩) l0.length cq) ∧ W'.cell? ⟨N + 1, 0, none⟩ = some vr ∧ Below W.heap.size W W')
      (first | exact ⟨c1', c2', below_drew (Below.refl _ _)⟩ | exact Cap.later ‹_› hb)
      ((go_at_call 46; refine a1.mono ?_; rintro e w2 ⟨v2, rfl, hV2, hb⟩))
    have hbw : Below W.heap.size W w2 := And.right (And.right ‹_ ∧ _ ∧ Below W.heap.size W _›)
    have hK' : w2.heap[D]? = some (.deferred (some [])) := (hbw.block D (Array.getElem?_eq_some_iff.1 hK).1).trans hK
    go_wp2
    refine ⟨by simp, .inl ⟨_, _, rfl, run_takeDeferred hK', ?_⟩⟩
    have hbk := belowK_b (w := w) (Nat.le_refl _) w2 D (.deferred (some [])) (.deferred none) (by omega) hK' rfl rfl
    refine ⟨_, results_tmp2 rfl _ _ _, v2, vr, rfl, ?_, ?_, (hB.trans (hbw.mono hB.size)).trans hbk⟩
    · rw [hs]
      exact hV2.grown (grownBy_putObj' w2 D (.deferred none)) (fun r e => by cases e; exact ⟨_, hK', rfl⟩)
    · rw [hs]
      exact (HR.out.below hbw).grown (grownBy_putObj' w2 D (.deferred none)) (fun r e => by cases e; exact ⟨_, hK', rfl⟩)

/-- div: the quotient and the rest. -/
theorem divC (w : World) (v0 v1 : Value) (a b : Nat) (h0 : RD w v0 a) (h1 : RD w v1 b) (hb : 0 < b) (la : (limbs a).length ≤ 10000) (lb : (limbs b).length ≤ 10000) :
    Calls Tryz.prog 25 #[v0, v1] w fun e w' => ∃ q r, e = .returned (.tuple #[q, r]) ∧ RD w' q (a / b) ∧ RD w' r (a % b) ∧ Below w.heap.size w w' := by
  obtain ⟨A0, c0, rfl, _, h0⟩ := h0
  obtain ⟨A1, c1, rfl, _⟩ := id h1
  refine (div_walk A0 c0 (limbs a) A1 c1 _ b w la (vl_limbs a) h0 h1 hb lb).mono ?_
  rintro e w' ⟨q, r, rfl, hq, hr, hbl⟩
  obtain ⟨e1, _, e3⟩ := div_end a b hb
  rw [e3] at hq
  rw [e1] at hr
  exact ⟨q, r, rfl, hq, hr, hbl⟩
end Go.Proofs.YtdojfnjgipeogaaGreatDoor
