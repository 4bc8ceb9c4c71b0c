/- What the package variables hold, and the library's functions that natural calls, each as a function of its arguments. -/
import Derived.WalkKit
import Derived.WalkSmall
import Derived.Shelf.Strings.SlTrimAscii
import Derived.Test.YtdojfnjgipeogaaGreatDoorProg
import Derived.Test.YtdojfnjgipeogaaGreatDoorShelf
import Derived.Test.YtdojfnjgipeogaaGreatDoorMyW
namespace Go.Proofs.YtdojfnjgipeogaaGreatDoor
open Go.RowKit Go.Shelf Go.Proofs.YtdojfnjgipeogaaGreatDoorW.PrintWords

theorem below_growL (w : World) (k : Nat) (os : Array Obj) : Below w.heap.size w (Sort.grow (w.drewN k) os) := by
  have h : Below w.heap.size w (w.drewN k) := pw_below_drewN (Below.refl _ _) k
  refine h.trans ⟨rfl, rfl, rfl, by simp [Sort.grow], fun i hi => ?_⟩
  have h2 : i < (w.drewN k).heap.size := by have := h.size; omega
  show ((w.drewN k).heap ++ os)[i]? = _
  rw [Array.getElem?_append, if_pos h2]

/-- The package variables that are read hold what their initialisers lay. -/
structure GOK (w : World) : Prop where
  tab : Lib.TabIs Tryz.prog w "internal/strconv.uint64pow10" .u64 Lib.pow10Tab
  rng : ∃ tp p, w.var? Tryz.prog "strconv.ErrRange" = some #[.iface tp p]

theorem var_keep {P : Program} {w w' : World} (hb : Below w.heap.size w w') {n : String} {cs : Array Value} (hv : w.var? P n = some cs) : w'.var? P n = some cs := by
  cases hg : P.globalNamed n with
  | none => simp [World.var?, hg] at hv
  | some g =>
    refine var?_below hb hg ?_ hv
    unfold World.var? at hv
    simp only [hg, Option.bind_some] at hv
    rcases Nat.lt_or_ge g w.heap.size with h | h
    · exact h
    · rw [Array.getElem?_eq_none h] at hv
      cases hv
theorem GOK.below {w w' : World} (h : GOK w) (hb : Below w.heap.size w w') : GOK w' :=
  ⟨var_keep hb h.tab, by obtain ⟨tp, p, hv⟩ := h.rng; exact ⟨tp, p, var_keep hb hv⟩⟩

/-- The text of all digits, as a cutset. -/
def digitsC : ByteArray := ⟨#[48, 49, 50, 51, 52, 53, 54, 55, 56, 57]⟩
def strings_Trim.f (a0 a1 : ByteArray) : Option ByteArray :=
  if a1 = digitsC then (if a0.size ≤ 9223372036854775807 then some ⟨(Lib.trimS a0.data.toList a1.data.toList).toArray⟩ else none) else none
theorem trim_info : (Tryz.prog.info? (Tryz.lays160_ren.t 116)).map (fun i => (i.zero, i.size)) = some (some (.agg (Array.replicate 256 (.bool false))), 256) := by kernel_rfl
theorem strings_Trim.calls (a0 a1 : ByteArray) (r : ByteArray) (w : World) (h : strings_Trim.f a0 a1 = some r) :
    Calls Tryz.prog 34 #[.string a0, .string a1] w fun e w' => e = .returned (.string r) ∧ Below w.heap.size w w' := by
  unfold strings_Trim.f at h
  split at h
  · rename_i h1
    subst h1
    split at h
    · rename_i h2
      obtain rfl := Option.some.inj h
      exact Any.strings_Trim_laid Tryz.lays160 trim_info a0 digitsC w h2 (by decide) (ascii_of_all (by decide))
    · cases h
  · cases h

def errL : Option Int → Value
  | none => .nilIface
  | some c => .iface 0 (.int .i64 c)
def strconv_ParseUint.f (a0 : ByteArray) (a1 a2 : Int) : Option (Int × Option Int) :=
  if a1 = 10 ∧ a2 = 64 ∧ a0.size ≤ 1000 then (match Lib.parseUintB 64 a0.data.toList with | .ok u => some ((u : Int), none) | _ => none) else none
theorem strconv_ParseUint.calls (a0 : ByteArray) (a1 a2 : Int) (r1 : Int) (r2 : Option Int) (w : World) (h : strconv_ParseUint.f a0 a1 a2 = some (r1, r2)) :
    Calls Tryz.prog 45 #[.string a0, .int .i64 a1, .int .i64 a2] w fun e w' => e = .returned (.tuple #[.int .u64 r1, errL r2]) ∧ Below w.heap.size w w' := by
  unfold strconv_ParseUint.f at h
  split at h
  · rename_i h1
    obtain ⟨rfl, rfl, hs⟩ := h1
    cases hp : Lib.parseUintB 64 a0.data.toList with
    | ok u =>
      rw [hp] at h
      simp only [Option.some.injEq, Prod.mk.injEq] at h
      obtain ⟨rfl, rfl⟩ := h
      refine (Tryz.strconv_ParseUint_10_at64_ok a0 (by omega) u hp w).mono fun e w' ⟨he, hw⟩ => ⟨he, ?_⟩
      rcases hw with rfl | rfl
      · exact Below.refl _ _
      · exact bytes_below (Below.refl _ _) (Nat.le_refl _) _ _
    | «syntax» => rw [hp] at h; cases h
    | range => rw [hp] at h; cases h
  · cases h

def strconv_Itoa.f (a0 : Int) : Option ByteArray := if -9223372036854775808 ≤ a0 ∧ a0 ≤ 9223372036854775807 then some ⟨(Lib.itoa a0).toArray⟩ else none
theorem strconv_Itoa.calls (a0 : Int) (r : ByteArray) (w : World) (h : strconv_Itoa.f a0 = some r) (hG : GOK w) :
    Calls Tryz.prog 36 #[.int .i64 a0] w fun e w' => e = .returned (.string r) ∧ Below w.heap.size w w' := by
  unfold strconv_Itoa.f at h
  split at h
  · rename_i h1
    obtain rfl := Option.some.inj h
    refine (Tryz.strconv_Itoa a0 h1.1 h1.2 w hG.tab).mono fun e w' ⟨he, k, os, hw⟩ => ⟨he, ?_⟩
    subst hw
    exact below_growL w k os
  · cases h
end Go.Proofs.YtdojfnjgipeogaaGreatDoor
