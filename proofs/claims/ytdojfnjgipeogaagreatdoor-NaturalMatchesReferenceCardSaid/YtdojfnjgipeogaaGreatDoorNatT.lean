/- (number).text: the digits of a number from its limbs. -/
import Derived.Test.YtdojfnjgipeogaaGreatDoorNatB
import Derived.Test.YtdojfnjgipeogaaGreatDoorNatW
namespace Go.Proofs.YtdojfnjgipeogaaGreatDoor
open Go.RowKit Go.Shelf Go.Proofs.YtdojfnjgipeogaaGreatDoorW.PrintWords NatB
attribute [local go_sem] Oper.semAt_some

def fu (v : Int) : ByteArray := ⟨(Lib.decDigits v.toNat).toArray⟩
def rep0 (c : Int) : ByteArray := ⟨(Lib.repeatL [48] c.toNat).toArray⟩
theorem fu_call (v : Int) (h0 : 0 ≤ v) (h1 : v < 1000000000) (w : World) (hG : GOK w) :
    Calls Tryz.prog 50 #[.int .u64 v, .int .i64 10] w fun e w' => e = .returned (.string (fu v)) ∧ Below w.heap.size w w' := by
  obtain ⟨u, rfl⟩ := Int.eq_ofNat_of_zero_le h0
  unfold fu
  rw [Int.toNat_natCast]
  exact formatUint u (by omega) w hG
theorem rep0_call (c : Int) (h0 : 0 ≤ c) (h1 : c ≤ 9) (w : World) :
    Calls Tryz.prog 52 #[.string ⟨#[48]⟩, .int .i64 c] w fun e w' => e = .returned (.string (rep0 c)) ∧ Below w.heap.size w w' := by
  obtain ⟨u, rfl⟩ := Int.eq_ofNat_of_zero_le h0
  unfold rep0
  rw [Int.toNat_natCast]
  exact Tryz.strings_Repeat ⟨#[48]⟩ u w (by omega) (by show 1 * u ≤ _; omega)

/-- The digits that the limb at an index brings. -/
def partAt (l : List Int) (i : Nat) : List UInt8 := (if i + 1 < l.length then (rep0 (9 - ((fu (rd l (i : Int))).size : Int))).data.toList else []) ++ (fu (rd l (i : Int))).data.toList
def textPre (l : List Int) (pre : List (Fin l.length)) : List UInt8 := pre.flatMap fun i : Fin l.length => partAt l i.1
theorem textPre_snoc (l : List Int) (pre : List (Fin l.length)) (x : Fin l.length) : textPre l (pre ++ [x]) = textPre l pre ++ partAt l x.1 := by simp [textPre]
def textL (l : List Int) : List UInt8 := textPre l (dn l.length l.length)
theorem nDigits_le : ∀ (k u : Nat), u < 10 ^ (k + 1) → Lib.nDigits u ≤ k + 1
  | 0, u, h => by rw [Lib.nDigits_small (by simpa using h)]; omega
  | k + 1, u, h => by
    by_cases h10 : u < 10
    · rw [Lib.nDigits_small h10]; omega
    · rw [Lib.nDigits_big h10]
      have := nDigits_le k (u / 10) (by rw [Nat.pow_succ] at h; omega)
      omega
theorem fu_le (v : Int) (h1 : v < 1000000000) : (fu v).size ≤ 9 := by
  have : (fu v).size = (Lib.decDigits v.toNat).length := rfl
  rw [this, Lib.decDigits_length]
  exact nDigits_le 8 _ (by omega)

theorem builder_own {T e : TypeId} {B b : Nat} {bs : List Value} {W W' : World} (h : Lib.IsBuilder T e B b bs W) {row : Option Nat} (hg : W.grownBy W' row) (hr : ∀ r, row = some r → ∃ o : Obj, W.heap[r]? = some o ∧ o.isCells = false) : Lib.IsBuilder T e B b bs W' := by
  have key : ∀ p, Lib.BuilderAt T e B b p bs W → Lib.BuilderAt T e B b p bs W' := by
    rintro p ⟨hB, v, hb, hown, hne⟩
    have cells_ne : ∀ k cs T' fr, W.heap[k]? = some (.cells cs T' fr) → some k ≠ row := by
      intro k cs T' fr hk e'
      obtain ⟨o, ho, hc⟩ := hr k e'.symm
      rw [hk] at ho
      obtain rfl := Option.some.inj ho
      simp [Obj.isCells] at hc
    refine ⟨hB, v, ?_, ?_, hne⟩
    · rw [hg.block b (Array.getElem?_eq_some_iff.1 hb).1 (cells_ne _ _ _ _ hb)]; exact hb
    · refine hown.kept hg ?_
      rcases hown.2 with ⟨rfl, _⟩ | ⟨g, cap, cur, rfl, _, hgc, _⟩
      · exact .inl rfl
      · exact .inr (cells_ne _ _ _ _ hgc)
  rcases h with h | h
  · exact .inl (key _ h)
  · exact .inr (key _ h)

theorem partAt_le (l : List Int) (hv : ∀ v ∈ l, 0 ≤ v ∧ v < 1000000000) (i : Nat) (hi : i < l.length) : (partAt l i).length ≤ 18 := by
  have hm : rd l (i : Int) ∈ l := by
    unfold rd
    rw [Int.toNat_natCast, List.getD_eq_getElem?_getD, List.getElem?_eq_getElem hi]
    exact List.getElem_mem hi
  have h1 := (hv _ hm).2
  have h2 := fu_le _ h1
  have h3 : (fu (rd l (i : Int))).data.toList.length = (fu (rd l (i : Int))).size := (Lib.size_eq _).symm
  unfold partAt
  rw [List.length_append, h3]
  split
  · have : (rep0 (9 - ((fu (rd l (i : Int))).size : Int))).data.toList.length ≤ 9 := by
      show (Lib.repeatL [48] _).length ≤ 9
      rw [Lib.repeatL_length]
      simp only [List.length_singleton]
      omega
    omega
  · simp only [List.length_nil]; omega
theorem textPre_le (l : List Int) (hv : ∀ v ∈ l, 0 ≤ v ∧ v < 1000000000) : ∀ pre : List (Fin l.length), (textPre l pre).length ≤ 18 * pre.length
  | [] => by simp [textPre]
  | x :: pre => by
    have h1 := partAt_le l hv x.1 x.2
    have h2 := textPre_le l hv pre
    have : textPre l (x :: pre) = partAt l x.1 ++ textPre l pre := by simp [textPre]
    rw [this, List.length_append, List.length_cons]
    omega
theorem keepsT_from {B : Nat} {W W' : World} (h : KeepsT W W') (hs : W.heap.size ≤ W'.heap.size) : KeepsFrom B W W' :=
  ⟨hs, fun k o _ hk ho => h k o hk (fun _ _ e => by subst e; cases ho) (fun _ _ e => by subst e; cases ho)⟩
theorem KeepsT.boxed {W W' : World} (h : KeepsT W W') {b t : Nat} {v : Value} (hb : Boxed W b t v) (h1 : t ≠ 66) (h2 : t ≠ 5) : Boxed W' b t v :=
  h _ _ hb (fun _ _ e => h1 (by injection e)) (fun _ _ e => h2 (by injection e))
theorem builder_below {T e : TypeId} {B b : Nat} {bs : List Value} {W W' : World} (h : Lib.IsBuilder T e B b bs W) (hb : Below W.heap.size W W') : Lib.IsBuilder T e B b bs W' :=
  builder_own h (grown_of_below hb none) (fun _ e => by cases e)
theorem cells_app (l : List UInt8) (s : ByteArray) : Lib.byteCells l ++ Lib.strCells s = Lib.byteCells (l ++ s.data.toList) := by simp [Lib.byteCells, Lib.strCells]
theorem byteCells_len (l : List UInt8) : (Lib.byteCells l).length = l.length := Lib.byteCells_length l
theorem fu_ne (v : Int) : (fu v).data.toList ≠ [] := by
  intro h
  have h1 : (Lib.decDigits v.toNat).length = 0 := by
    have : (fu v).data.toList = Lib.decDigits v.toNat := rfl
    rw [← this, h]; rfl
  rw [Lib.decDigits_length] at h1
  have := Lib.nDigits_pos v.toNat
  omega
theorem textL_ne (l : List Int) (h : l ≠ []) : textL l ≠ [] := by
  unfold textL textPre
  intro h1
  rw [List.flatMap_eq_nil_iff] at h1
  have hp : 0 < l.length := List.length_pos_iff.2 h
  have h2 := h1 ⟨0, hp⟩ (by
    refine List.mem_iff_getElem.2 ⟨l.length - 1, by rw [dn_length (Nat.le_refl _)]; omega, ?_⟩
    unfold dn
    apply Fin.ext
    simp)
  unfold partAt at h2
  exact fu_ne _ (List.append_eq_nil_iff.1 h2).2

def natural_number_text.f (l : List Int) : Option (ByteArray × Int) :=
  if l.length ≤ 1000 ∧ ∀ v ∈ l, 0 ≤ v ∧ v < 1000000000 then
    (if l = [] then some (⟨#[48]⟩, 0) else if 300 < (textL l).length then some (⟨#[]⟩, 2) else some (⟨(textL l).toArray⟩, 0))
  else none

theorem text_nil (A0 : Option Addr) (c0 : Nat) (w : World) :
    Calls Tryz.prog 26 #[.slice A0 0 c0] w fun e w' => e = .returned (.tuple #[.string ⟨#[48]⟩, .int .i64 0]) ∧ Below w.heap.size w w' := by
  go_enter Tryz.func26, Tryz.ntmps26
  go_wp2
  go_ret2
  exact ⟨rfl, (Below.refl _ _).alloc (Nat.le_refl _) _⟩

set_option maxRecDepth 100000 in
set_option maxHeartbeats 4000000 in
theorem text_some (A0 : Option Addr) (c0 : Nat) (l0 : List Int) (w : World) (rs : ByteArray) (re : Int) (hres : (300 < (textL l0).length ∧ rs = ⟨#[]⟩ ∧ re = 2) ∨ (¬ 300 < (textL l0).length ∧ rs = ⟨(textL l0).toArray⟩ ∧ re = 0)) (hn0 : l0.length ≤ 1000) (hne : ¬ l0 = []) (hv : ∀ v ∈ l0, 0 ≤ v ∧ v < 1000000000)
    (hr0 : Kd.C (Kd.int .u64) w A0 l0.length l0) (hG : GOK w) :
    Calls Tryz.prog 26 #[.slice A0 l0.length c0] w fun e w' => e = .returned (.tuple #[.string rs, .int .i64 re]) ∧ Below w.heap.size w w' := by
  have hz : ((l0.length : Int) == 0) = false := by
    rw [beq_eq_false_iff_ne]
    intro h
    exact hne (List.eq_nil_of_length_eq_zero (by omega))
  have HR0 := Lib.hid hr0
  have HRES := Lib.hid hres
  clear hres
  have HV := Lib.hid hv
  have HG := Lib.hid hG
  clear hr0 hv hG hne
  refine (callsIn_wide (n := 5)).1 ?_
  refine callsIn_of_wp_marks Tryz.func26 rfl trivial ?_ rfl
  simp only [Tryz.ntmps26, List.size_toArray, List.length_cons, List.length_nil, Nat.reduceAdd, Nat.reduceSub, Array.replicate_succ, Array.replicate_zero, List.push_toArray, List.append_toArray, List.nil_append, List.cons_append]
  gi_wp2_with (refine ⟨trivial, ?_⟩; gi_at_call 47; refine (back_in Fence.wide _ trivial rfl _ _ _ _).mono ?_; rintro e w' ⟨rfl, rfl⟩)
  have b0 := (((Boxed.new w 36 (.slice A0 l0.length c0)).alloc (.cells #[.pointer none, .slice none 0 0] 66))).alloc (.cells #[.slice A0 l0.length c0] 36)
  have b1 : (((w.alloc (.cells #[.slice A0 l0.length c0] 36)).alloc (.cells #[.pointer none, .slice none 0 0] 66)).alloc (.cells #[.slice A0 l0.length c0] 36)).heap[w.heap.size + 1]? = some (.cells #[.pointer none, .slice none 0 0] 66) := by
    have h := World.alloc_heap_new (w.alloc (.cells #[.slice A0 l0.length c0] 36)) (.cells #[.pointer none, .slice none 0 0] 66)
    rw [World.size_alloc] at h
    rw [Below.heap_alloc _ _ _ (by simp)]
    exact h
  have b2 := Boxed.new ((w.alloc (.cells #[.slice A0 l0.length c0] 36)).alloc (.cells #[.pointer none, .slice none 0 0] 66)) 36 (.slice A0 l0.length c0)
  rw [World.size_alloc, World.size_alloc] at b2
  have hB0 : Below w.heap.size w (((w.alloc (.cells #[.slice A0 l0.length c0] 36)).alloc (.cells #[.pointer none, .slice none 0 0] 66)).alloc (.cells #[.slice A0 l0.length c0] 36)) :=
    below_alloc (below_alloc (below_alloc (Below.refl _ _) _) _) _
  obtain ⟨W0, hW0⟩ : ∃ W0, (((w.alloc (.cells #[.slice A0 l0.length c0] 36)).alloc (.cells #[.pointer none, .slice none 0 0] 66)).alloc (.cells #[.slice A0 l0.length c0] 36)) = W0 := ⟨_, rfl⟩
  have hsz : W0.heap.size = w.heap.size + 3 := by rw [← hW0]; simp
  rw [hW0] at hB0 b0 b1 b2 ⊢
  clear hW0
  have hbd0 : Lib.IsBuilder 66 5 w.heap.size (w.heap.size + 1) (Lib.byteCells (textPre l0 [])) W0 :=
    .inl ⟨by omega, .slice none 0 0, b1, World.ownsRow_nil _ _ _ _, by simp [Value.ownBlock]⟩
  clear b1
  refine wpIn_rangeFunc_ownG rfl (by omega) (gf := 73) (lb := #[.pointer (some ⟨w.heap.size + 1 + 1, 0, none⟩)]) rfl trivial (enters_of Tryz.func73 (by kernel_rfl) rfl)
    (back_stops Fence.wide _ trivial rfl (by omega) (w.heap.size + 1 + 1) w.heap.size A0 c0 l0 (by omega) W0 (by omega) (by omega) b2.cell (fun W' hb => Kd.C_below HR0.out (hB0.trans hb))) kpB_t (kpB_b (by omega) (by omega)) (Below.refl _ _) (fun _ => rfl)
    (fun pre W => ((Lib.IsBuilder 66 5 w.heap.size (w.heap.size + 1) (Lib.byteCells (textPre l0 pre)) W ∧ Boxed W w.heap.size 36 (.slice A0 l0.length c0)) ∧ Boxed W (w.heap.size + 1 + 1) 36 (.slice A0 l0.length c0)) ∧ Below w.heap.size w W)
    (fun _ _ _ => False)
    (OwnFrom.and (Own.from (fun s A B row hs hg hr => ⟨⟨builder_own hs.1.1 hg hr, boxed_own (β := Unit) _ _ (fun _ => _) () _ _ _ hs.1.2 hg hr⟩, boxed_own (β := Unit) _ _ (fun _ => _) () _ _ _ hs.2 hg hr⟩) _) (ownFrom_below (Nat.le_refl _) (by omega)))
    (fun _ _ _ _ _ hs _ _ => hs)
    ⟨⟨⟨hbd0, b0⟩, b2⟩, hB0⟩
    (fun x => { tmps := #[.slice A0 l0.length c0, .pointer (some ⟨w.heap.size, 0, none⟩), .string ⟨#[]⟩, .int .i64 0, .pointer (some ⟨w.heap.size + 1, 0, none⟩), .int .i64 ((x : Nat) : Int), .int .u64 (rd l0 ((x : Nat) : Int)), undef, .slice A0 l0.length c0,
        .int .i64 (l0.length : Int), .bool false, .slice A0 l0.length c0, .func (.func 73) #[] #[.pointer (some ⟨w.heap.size + 1 + 1, 0, none⟩)], .int .i64 ((x : Nat) : Int), .int .u64 (rd l0 ((x : Nat) : Int)),
        undef, undef, undef, undef, undef, undef, undef, undef, undef, undef, undef, undef, undef, undef, undef, undef, undef], defers := [] }) ?assign ?body ?done ?stop
  case assign =>
    intro l x W K hK
    gi_wp2
    exact hK
  case body =>
    rintro l pre x W ⟨⟨⟨hBd, hb0⟩, hb2⟩, hB⟩ hlen
    have hc0 := hb0.cell
    have hxlt : ((x : Nat) : Int) < (l0.length : Int) := by omega
    have hx0 : (0 : Int) ≤ ((x : Nat) : Int) := by omega
    have hm : rd l0 ((x : Nat) : Int) ∈ l0 := by
      unfold rd
      rw [Int.toNat_natCast, List.getD_eq_getElem?_getD, List.getElem?_eq_getElem x.2]
      exact List.getElem_mem x.2
    have hv0 := (HV.out _ hm).1
    have hv1 := (HV.out _ hm).2
    have h9 := fu_le _ hv1
    have hGW := Lib.hid (HG.out.below hB)
    have HM := Lib.hid hm
    have hpl := textPre_le l0 HV.out pre
    have hWs := hB.size
    have HBd := Lib.hid hBd
    have HB0 := Lib.hid hb0
    have HB2 := Lib.hid hb2
    clear hm hBd hb0 hb2
    by_cases hlast : ((x : Nat) : Int) < (l0.length : Int) - 1
    · have hp : partAt l0 x.1 = (rep0 (9 - ((fu (rd l0 ((x : Nat) : Int))).size : Int))).data.toList ++ (fu (rd l0 ((x : Nat) : Int))).data.toList := by
        unfold partAt
        rw [if_pos (by omega)]
      have hrl : (rep0 (9 - ((fu (rd l0 ((x : Nat) : Int))).size : Int))).size ≤ 9 := by
        show (Lib.repeatL [48] _).length ≤ 9
        rw [Lib.repeatL_length]
        simp only [List.length_singleton]
        omega
      have HP := Lib.hid hp
      clear hp
      gi_wp2_with fail
      refine ⟨trivial, ?_⟩
      gi_at_call 50
      refine (CallsIn.inRound l (callsIn_wide.2 (fu_call _ hv0 hv1 _ hGW.out))).mono ?_
      rintro e w1 ⟨rfl, hb1⟩
      have hc1 := (hb1.cell (World.block_lt_of_cell? W _ hc0)).trans hc0
      gi_wp2_with fail
      refine ⟨trivial, ?_⟩
      gi_at_call 52
      refine (CallsIn.inRound l (callsIn_wide.2 (rep0_call _ (by omega) (by omega) _))).mono ?_
      rintro e w2 ⟨rfl, hb2'⟩
      have hb12 : Below W.heap.size W w2 := below_then hb1 hb1.size hb2'
      have hBd2 := builder_below HBd.out hb12
      have hs2 := hb12.size
      gi_wp2_with fail
      refine ⟨trivial, ?_⟩
      gi_at_call 51
      refine (CallsIn.inRound l (callsIn_wide.2 (wstr w.heap.size (w.heap.size + 1) _ _ _ hBd2 (by rw [byteCells_len]; omega) (by omega)))).mono ?_
      rintro e w3 ⟨rfl, hBd3, hb3, hk3⟩
      have hs3 := hb3.size
      rw [cells_app] at hBd3
      gi_wp2_with fail
      refine ⟨trivial, ?_⟩
      gi_at_call 51
      refine (CallsIn.inRound l (callsIn_wide.2 (wstr w.heap.size (w.heap.size + 1) _ _ _ (.inr hBd3) (by rw [byteCells_len, List.length_append, ← Lib.size_eq]; omega) (by omega)))).mono ?_
      rintro e w4 ⟨rfl, hBd4, hb4, hk4⟩
      rw [cells_app, List.append_assoc, ← HP.out, ← textPre_snoc] at hBd4
      have hkk : KeepsT W w4 := ((KeepsT.below hb12).trans hk3).trans hk4
      have hs4 := hb4.size
      have h02 := HB2.out
      have hbb : Below w.heap.size W w4 := ((hb12.mono hWs).trans hb3).trans hb4
      gi_wp2
      exact ⟨keepsT_from hkk (by omega), ⟨hbb, (hkk.boxed h02 (by decide) (by decide)).trans h02.symm⟩, ⟨⟨.inr hBd4, hkk.boxed HB0.out (by decide) (by decide)⟩, hkk.boxed HB2.out (by decide) (by decide)⟩, hB.trans hbb⟩
    · have hp : partAt l0 x.1 = (fu (rd l0 ((x : Nat) : Int))).data.toList := by
        unfold partAt
        rw [if_neg (by omega), List.nil_append]
      have HP := Lib.hid hp
      clear hp
      gi_wp2_with fail
      refine ⟨trivial, ?_⟩
      gi_at_call 50
      refine (CallsIn.inRound l (callsIn_wide.2 (fu_call _ hv0 hv1 _ hGW.out))).mono ?_
      rintro e w1 ⟨rfl, hb1⟩
      have hc1 := (hb1.cell (World.block_lt_of_cell? W _ hc0)).trans hc0
      have hBd2 := builder_below HBd.out hb1
      have hs2 := hb1.size
      gi_wp2_with fail
      refine ⟨trivial, ?_⟩
      gi_at_call 51
      refine (CallsIn.inRound l (callsIn_wide.2 (wstr w.heap.size (w.heap.size + 1) _ _ _ hBd2 (by rw [byteCells_len]; omega) (by omega)))).mono ?_
      rintro e w4 ⟨rfl, hBd4, hb4, hk4⟩
      rw [cells_app, ← HP.out, ← textPre_snoc] at hBd4
      have hkk : KeepsT W w4 := (KeepsT.below hb1).trans hk4
      have hs4 := hb4.size
      have h02 := HB2.out
      have hbb : Below w.heap.size W w4 := (hb1.mono hWs).trans hb4
      gi_wp2
      exact ⟨keepsT_from hkk (by omega), ⟨hbb, (hkk.boxed h02 (by decide) (by decide)).trans h02.symm⟩, ⟨⟨.inr hBd4, hkk.boxed HB0.out (by decide) (by decide)⟩, hkk.boxed HB2.out (by decide) (by decide)⟩, hB.trans hbb⟩
  case done =>
    rintro D ys W hD rfl ⟨⟨⟨hBd, hb0⟩, hb2⟩, hB⟩ hK
    have hpl := textPre_le l0 HV.out (dn l0.length l0.length)
    rw [dn_length (Nat.le_refl _)] at hpl
    have htl : (textPre l0 (dn l0.length l0.length)) = textL l0 := rfl
    rw [htl] at hpl hBd
    clear htl
    have hne : textL l0 ≠ [] := textL_ne l0 (by intro e; subst e; simp at hz)
    have HNE := Lib.hid hne
    have HBd := Lib.hid hBd
    have HK := Lib.hid hK
    clear hne hBd hK hb0 hb2
    rcases HRES.out with ⟨hbig, h1, h2⟩ | ⟨hbig, h1, h2⟩
    · have hbi : (300 : Int) < ((textL l0).length : Int) := by omega
      have H1 := Lib.hid h1
      have H2 := Lib.hid h2
      clear h1 h2
      gi_wp2_with fail
      refine ⟨trivial, ?_⟩
      gi_at_call 53
      refine (callsIn_wide.2 (Tryz.Builder_Len w.heap.size (w.heap.size + 1) _ _ HBd.out)).mono ?_
      rintro e w1 ⟨rfl, rfl⟩
      rw [byteCells_len]
      gi_wp2
      refine ⟨by simp, .inl ⟨_, _, rfl, run_takeDeferred HK.out, ?_⟩⟩
      exact ⟨_, results_tmp2 rfl _ _ _, by rw [H1.out, H2.out]; rfl, hB.trans (belowK_b (w := w) (Nat.le_refl _) _ D _ _ (by omega) HK.out rfl rfl)⟩
    · have hbi : ¬ (300 : Int) < ((textL l0).length : Int) := by omega
      have H1 := Lib.hid h1
      have H2 := Lib.hid h2
      clear h1 h2
      gi_wp2_with fail
      refine ⟨trivial, ?_⟩
      gi_at_call 53
      refine (callsIn_wide.2 (Tryz.Builder_Len w.heap.size (w.heap.size + 1) _ _ HBd.out)).mono ?_
      rintro e w1 ⟨rfl, rfl⟩
      rw [byteCells_len]
      gi_wp2_with fail
      refine ⟨trivial, ?_⟩
      gi_at_call 54
      refine (callsIn_wide.2 (bstring w.heap.size (w.heap.size + 1) _ _ HBd.out HNE.out)).mono ?_
      rintro e w2 ⟨rfl, hb2, hk2⟩
      have hK2 : Hid (w2.heap[D]? = some (.deferred (some []))) := hk2 _ _ HK.out (fun _ _ e => by cases e) (fun _ _ e => by cases e)
      gi_wp2
      refine ⟨by simp, .inl ⟨_, _, rfl, run_takeDeferred hK2.out, ?_⟩⟩
      exact ⟨_, results_tmp2 rfl _ _ _, by rw [H1.out, H2.out]; rfl, (hB.trans hb2).trans (belowK_b (w := w) (Nat.le_refl _) _ D _ _ (by omega) hK2.out rfl rfl)⟩
  case stop =>
    rintro D c pre W _ _ h _
    exact h.elim

theorem natural_number_text.calls (A0 : Option Addr) (c0 : Nat) (l0 : List Int) (r1 : ByteArray) (r2 : Int) (w : World) (hr0 : Kd.C (Kd.int .u64) w A0 l0.length l0) (_hc0 : l0.length ≤ c0) (h : natural_number_text.f l0 = some (r1, r2)) (hG : GOK w) :
    Calls Tryz.prog 26 #[.slice A0 l0.length c0] w fun e w' => e = .returned (.tuple #[.string r1, .int .i64 r2]) ∧ Below w.heap.size w w' := by
  unfold natural_number_text.f at h
  split at h
  · rename_i hn
    split at h
    · rename_i he
      subst he
      simp only [Option.some.injEq, Prod.mk.injEq] at h
      obtain ⟨rfl, rfl⟩ := h
      exact text_nil A0 c0 w
    · rename_i he
      split at h
      · rename_i hb
        simp only [Option.some.injEq, Prod.mk.injEq] at h
        exact text_some A0 c0 l0 w r1 r2 (.inl ⟨hb, h.1.symm, h.2.symm⟩) hn.1 he hn.2 hr0 hG
      · rename_i hb
        simp only [Option.some.injEq, Prod.mk.injEq] at h
        exact text_some A0 c0 l0 w r1 r2 (.inr ⟨hb, h.1.symm, h.2.symm⟩) hn.1 he hn.2 hr0 hG
  · cases h
end Go.Proofs.YtdojfnjgipeogaaGreatDoor
