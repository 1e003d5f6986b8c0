/- Contracts of functions that the printer does not take: strings.Trim at an ASCII cutset, strings.Count at one byte (both off the shelf), impl.turned (a walk of its own). -/
import Derived.Test.YtkdfhgilpnohpaaDoorShelf
import Derived.Test.YtkdfhgilpnohpaaDoorMarked
import Derived.Test.YtkdfhgilpnohpaaDoorWk0
namespace Go.Proofs.YtkdfhgilpnohpaaDoor.Wk
open Go.RowKit Go.Proofs.YtkdfhgilpnohpaaDoorW.PrintWords Go.Proofs.YtkdfhgilpnohpaaDoor.Marked

def strings_Trim.f (a0 : ByteArray) (a1 : ByteArray) : Option (ByteArray) :=
  if a0.size ≤ 9223372036854775807 ∧ a1.size < 4294967281 ∧ (a1.data.toList.all fun b => decide (b.toNat < 128)) = true then some ⟨(Lib.trimS a0.data.toList a1.data.toList).toArray⟩ else none
theorem strings_Trim.calls (a0 : ByteArray) (a1 : ByteArray) (r : ByteArray) (w : World) (h : strings_Trim.f a0 a1 = some r) :
    Calls Tryd.prog 218 #[.string a0, .string a1] w fun e w' => e = .returned (.string r) ∧ Below w.heap.size w w' := by
  unfold strings_Trim.f at h
  split at h
  · rename_i hc
    obtain ⟨h1, h2, h3⟩ := hc
    obtain rfl := Option.some.inj h
    exact Tryd.strings_Trim_ascii a0 a1 w h1 h2 (ascii_of_all h3)
  · cases h

def strings_Count.f (a0 : ByteArray) (a1 : ByteArray) : Option (Int) :=
  if a1.size = 1 then some (Lib.countByte a0.data.toList (a1.data.toList.getD 0 0)) else none
theorem strings_Count.calls (a0 : ByteArray) (a1 : ByteArray) (r : Int) (w : World) (h : strings_Count.f a0 a1 = some r) :
    Calls Tryd.prog 173 #[.string a0, .string a1] w fun e w' => e = .returned (.int .i64 r) ∧ Below w.heap.size w w' := by
  unfold strings_Count.f at h
  split at h
  · rename_i hc
    obtain rfl := Option.some.inj h
    have hl : a1.data.toList.length = 1 := by rw [data_length]; exact hc
    match hm : a1.data.toList, hl with
    | [c], _ =>
      have e1 : a1 = ⟨#[c]⟩ := by
        cases a1 with
        | mk d => cases d with
          | mk l => simp at hm; subst hm; rfl
      subst e1
      refine (Tryd.strings_Count_one a0 c w).mono ?_
      rintro e w' ⟨rfl, rfl⟩
      exact ⟨rfl, Below.refl _ _⟩
  · cases h

def impl_turned.f (a0 : ByteArray) (a1 : Int) : Option (ByteArray) :=
  if 0 ≤ a1 ∧ a1 < (a0.size : Int) ∧ a0.size ≤ 9223372036854775807 then some (strOfNums ((bytesOf a0).set a1.toNat ((97 - bt a0 a1) % 256))) else none
set_option maxRecDepth 100000 in
theorem impl_turned.calls (a0 : ByteArray) (a1 : Int) (r : ByteArray) (w : World) (h : impl_turned.f a0 a1 = some r) :
    Calls Tryd.prog 132 #[.string a0, .int .i64 a1] w fun e w' => e = .returned (.string r) ∧ Below w.heap.size w w' := by
  unfold impl_turned.f at h
  split at h
  · rename_i hc
    obtain ⟨h0, h1, hs⟩ := hc
    obtain ⟨i, rfl⟩ := Int.eq_ofNat_of_zero_le h0
    obtain rfl := Option.some.inj h
    have hi : i < a0.size := by omega
    have kb := fun W => print_bytes (P := Tryd.prog) 9 62 5 Tryd.underlying9 Tryd.underlying62 Tryd.underlying5 a0 W
    have hz : decide ((i : Int) < (a0.size : Int)) = true := by simpa using hi
    have hm := MRow.made w a0 hs
    have hl : i < (bytesOf a0).length := by rw [bytesOf_length]; exact hi
    have hc := hm.cell i hl
    rw [rd_bytesOf] at hc
    have hf := hm.free i hl
    have hr := bt_range a0 i
    have kc := fun v => (hm.set i hl v).string (P := Tryd.prog) Tryd.underlying62 Tryd.underlying5 Tryd.underlying9 a0.size (grownCap w a0.size 0 5) (by rw [List.length_set, bytesOf_length])
    clear hm hl h0 h1
    go_enter Tryd.func132, Tryd.ntmps132
    go_wp2
    go_ret
    exact ⟨by simp, (bw_below (Below.refl _ _) (Nat.le_refl _) a0).setCell (by simp) _⟩
  · cases h
end Go.Proofs.YtkdfhgilpnohpaaDoor.Wk
