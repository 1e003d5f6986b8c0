/- Contracts of functions that the printer does not take: strings.Trim at an ASCII cutset, strings.Count at one byte (both off the shelf). -/
import Derived.Test.YtkdfhgilpnohpaaDoorShelf
import Derived.Test.YtkdfhgilpnohpaaDoorSc0
namespace Go.Proofs.YtkdfhgilpnohpaaDoor.Sc
open Go.RowKit Go.Proofs.YtkdfhgilpnohpaaDoorW.PrintWords

def strings_Trim.f (a0 : ByteArray) (a1 : ByteArray) : Option (ByteArray) :=
  if a0.size ≤ 9223372036854775807 ∧ a1.size < 4294967281 ∧ (a1.data.toList.all fun b => decide (b.toNat < 128)) = true then some ⟨(Lib.trimS a0.data.toList a1.data.toList).toArray⟩ else none
theorem strings_Trim.calls (a0 : ByteArray) (a1 : ByteArray) (r : ByteArray) (w : World) (h : strings_Trim.f a0 a1 = some r) :
    Calls Tryd.prog 218 #[.string a0, .string a1] w fun e w' => e = .returned (.string r) ∧ Below w.heap.size w w' := by
  unfold strings_Trim.f at h
  split at h
  · rename_i hc
    obtain ⟨h1, h2, h3⟩ := hc
    obtain rfl := Option.some.inj h
    exact Tryd.strings_Trim_ascii a0 a1 w h1 h2 (ascii_of_all h3)
  · cases h

def strings_Count.f (a0 : ByteArray) (a1 : ByteArray) : Option (Int) :=
  if a1.size = 1 then some (Lib.countByte a0.data.toList (a1.data.toList.getD 0 0)) else none
theorem strings_Count.calls (a0 : ByteArray) (a1 : ByteArray) (r : Int) (w : World) (h : strings_Count.f a0 a1 = some r) :
    Calls Tryd.prog 173 #[.string a0, .string a1] w fun e w' => e = .returned (.int .i64 r) ∧ Below w.heap.size w w' := by
  unfold strings_Count.f at h
  split at h
  · rename_i hc
    obtain rfl := Option.some.inj h
    have hl : a1.data.toList.length = 1 := by rw [data_length]; exact hc
    match hm : a1.data.toList, hl with
    | [c], _ =>
      have e1 : a1 = ⟨#[c]⟩ := by
        cases a1 with
        | mk d => cases d with
          | mk l => simp at hm; subst hm; rfl
      subst e1
      refine (Tryd.strings_Count_one a0 c w).mono ?_
      rintro e w' ⟨rfl, rfl⟩
      exact ⟨rfl, Below.refl _ _⟩
  · cases h
end Go.Proofs.YtkdfhgilpnohpaaDoor.Sc
