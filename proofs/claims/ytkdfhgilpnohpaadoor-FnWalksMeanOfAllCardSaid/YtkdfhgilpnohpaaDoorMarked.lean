/- The row that '[]byte(s)' lays (it bears a conversion's mark, so it is no row of print's own words): what it reads as, a store into it, a string made of it. -/
import Derived.Test.YtkdfhgilpnohpaaDoorProg
import Derived.Test.YtkdfhgilpnohpaaDoorWWords
namespace Go.Proofs.YtkdfhgilpnohpaaDoor.Marked
open Go.RowKit Go.Proofs.YtkdfhgilpnohpaaDoorW.PrintWords

theorem bw_cell (W : World) (s : ByteArray) (i : Nat) (hi : i < s.size) : (Lib.bytesWorld W 5 s).cell? ⟨W.heap.size, i, none⟩ = some (.int .u8 (bt s i)) := by
  rw [Lib.bytesWorld_cell W 5 s i hi]
  have : (i : Int).toNat = i := by omega
  simp [bt, this, hi, List.getD_eq_getElem?_getD]
  rfl

theorem bw_cells_size (W : World) (s : ByteArray) : s.size ≤ (Lib.bytesCells W 5 s).size := by
  unfold Lib.bytesCells
  rw [Array.size_append, Array.size_map]
  show s.data.size ≤ _
  omega

theorem bw_frozen (W : World) (s : ByteArray) (i : Nat) (hi : i < s.size) : (Lib.bytesWorld W 5 s).frozen? ⟨W.heap.size, i, none⟩ = false := by
  have h := bw_cells_size W s
  unfold World.frozen?
  rw [Lib.bytesWorld_at_new]
  simp
  omega

/-- Block g of W holds a row of bytes, none of them frozen. -/
structure MRow (W : World) (g : Nat) (xs : List Int) : Prop where
  reads : ReadsInt W .u8 (some ⟨g, 0, none⟩) xs.length xs
  free : ∀ j, j < xs.length → W.frozen? ⟨g, j, none⟩ = false

theorem MRow.made (W : World) (s : ByteArray) (hs : s.size ≤ 9223372036854775807) : MRow (Lib.bytesWorld W 5 s) W.heap.size (bytesOf s) := by
  refine ⟨?_, fun j hj => bw_frozen W s j (by rw [bytesOf_length] at hj; exact hj)⟩
  rw [bytesOf_length]; exact bytes_reads W 5 s hs

theorem MRow.cell {W : World} {g : Nat} {xs : List Int} (h : MRow W g xs) (j : Nat) (hj : j < xs.length) : W.cell? ⟨g, j, none⟩ = some (.int .u8 (rd xs j)) := by
  obtain ⟨ad, he, hc⟩ := h.reads.2.2 (by omega)
  injection he with he; subst he
  have := hc j hj
  rw [add_plain] at this
  rw [this]; rfl

theorem MRow.lt {W : World} {g : Nat} {xs : List Int} (h : MRow W g xs) (h0 : 0 < xs.length) : g < W.heap.size :=
  World.block_lt_of_cell? W _ (h.cell 0 h0)

theorem MRow.set {W : World} {g : Nat} {xs : List Int} (h : MRow W g xs) (i : Nat) (hi : i < xs.length) (v : Int) : MRow (W.setCell ⟨g, i, none⟩ (.int .u8 v)) g (xs.set i v) := by
  refine ⟨⟨rfl, by rw [List.length_set]; exact h.reads.2.1, fun hp => ⟨_, rfl, fun j hj => ?_⟩⟩, fun j hj => ?_⟩
  · rw [List.length_set] at hj
    rw [add_plain]
    by_cases e : i = j
    · subst e
      rw [World.cell?_setCell_same (h := h.cell i hi)]
      simp [List.getD_eq_getElem?_getD, hi]
    · rw [World.cell?_setCell_other (h := by intro q; exact e (by injection q)), h.cell j hj]
      simp [rd, List.getD_eq_getElem?_getD, List.getElem?_set_ne e]
  · rw [List.length_set] at hj
    have := h.free j hj
    simpa using this

theorem MRow.later {W W1 : World} {g : Nat} {xs : List Int} (h : MRow W g xs) (h0 : 0 < xs.length) (hb : Below W.heap.size W W1) : MRow W1 g xs := by
  have hg := h.lt h0
  refine ⟨⟨rfl, h.reads.2.1, fun hp => ⟨_, rfl, fun j hj => ?_⟩⟩, fun j hj => ?_⟩
  · rw [add_plain, hb.cell (p := ⟨g, j, none⟩) hg, h.cell j hj]; rfl
  · rw [hb.frozen (p := ⟨g, j, none⟩) hg]; exact h.free j hj

theorem MRow.string {W : World} {g : Nat} {xs : List Int} (h : MRow W g xs) {P : Program} {src e dst : TypeId} (hs : P.underlying src = some (.slice e)) (he : P.underlying e = some (.int .u8)) (hd : P.underlying dst = some .string) (n c : Nat) (hn : xs.length = n) :
    (convert src dst (.slice (some ⟨g, 0, none⟩) n c)).run P W = .ok (.string (strOfNums xs)) W := by
  subst hn
  exact string_of_reads hs he hd h.reads

theorem bw_below {B : Nat} {w W : World} (h : Below B w W) (hB : B ≤ W.heap.size) (s : ByteArray) : Below B w (Lib.bytesWorld W 5 s) := bytes_below h hB 5 s
end Go.Proofs.YtkdfhgilpnohpaaDoor.Marked
