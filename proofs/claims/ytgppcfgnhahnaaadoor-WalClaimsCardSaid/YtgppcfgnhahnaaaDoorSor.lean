/- slices.Sort at []int, by the kit's contract. -/
import Derived.Test.YtgppcfgnhahnaaaDoorLib
import Derived.Test.YtgppcfgnhahnaaaDoorSrt
import Derived.Shelf.Slices.In.SortNone
import Derived.Sort.OwnSortedInts
set_option linter.unusedVariables false
set_option linter.unusedSimpArgs false
namespace Go.Proofs.YtgppcfgnhahnaaaDoor
open Go.SL
/-- in order -/
abbrev srt (zs : List Int) : List Int := zs.mergeSort fun x y => decide (x ≤ y)
theorem srt_length (zs : List Int) : (srt zs).length = zs.length := List.length_mergeSort _
theorem sort_ok (v : Value) (zs : List Int) (Lv : Hp) (w0 : World) (hO : OwnS 3 1 v zs.length (i64s zs) Lv) (hs : St (ids Lv) w0 w0 Lv) (hl : zs.length < 4611686018427387904) :
    Ret Tryd.prog 68 [v].toArray w0 fun r w' => ∃ L', St (ids Lv) w0 w' L' ∧ OwnS 3 1 v zs.length (i64s (srt zs)) L' := by
  rcases hO.2 with ⟨⟨a, rfl⟩, h0, rfl⟩ | ⟨g, cap, sp, rfl, h1, h2, h3, rfl⟩
  · have hz : zs = [] := List.eq_nil_of_length_eq_zero h0
    subst hz
    refine Calls.mono (Any.slices_Sort_int_none srtLays a 0 w0) ?_
    rintro e w' ⟨rfl, rfl⟩
    exact ⟨_, rfl, [], hs, by simpa [srt] using OwnS.bare _ _ a⟩
  · have hb : w0.heap[g]? = some (Blk 3 (i64s zs ++ sp)) := hs.own (g, _) (by simp)
    have hH := holds_of_blockI (ss := zs) hb (by simp)
    refine Calls.mono (Any.slices_Sort_int srtLays g 0 cap zs w0 hH (hs.lt (by simp [ids])) hl) ?_
    rintro e w' ⟨rfl, n, os, rfl⟩
    refine ⟨_, rfl, _, St.grown (Lv := [(g, Blk 3 (i64s zs ++ sp))]) (M := []) (by simpa using hs) (grownBy_sortedI _) (by intro k hk; cases hk; simp [ids]) (heap_sortedI _ hb) (.inl (by simp [ids])), ?_⟩
    have hlen : (srt zs).length = zs.length := srt_length zs
    have hsz : (Sort.putCells (Value.int .i64) 0 (srt zs).toArray (i64s zs ++ sp).toArray).size = (i64s zs ++ sp).length := by simp [Sort.putCells]
    have htk := take_putCellsI (i64s zs ++ sp).toArray (srt zs) (by rw [hlen]; simp)
    have hsplit : (Sort.putCells (Value.int .i64) 0 (srt zs).toArray (i64s zs ++ sp).toArray) = (i64s (srt zs) ++ (Sort.putCells (Value.int .i64) 0 (srt zs).toArray (i64s zs ++ sp).toArray).toList.drop (srt zs).length).toArray := by
      apply Array.toList_inj.1
      rw [List.toList_toArray]
      conv => lhs; rw [← List.take_append_drop (srt zs).length (Sort.putCells (Value.int .i64) 0 (srt zs).toArray (i64s zs ++ sp).toArray).toList]
      rw [htk]
    refine ⟨by rw [List.length_map, hlen, Nat.mul_one], .inr ⟨g, cap, (Sort.putCells (Value.int .i64) 0 (srt zs).toArray (i64s zs ++ sp).toArray).toList.drop (srt zs).length, rfl, h1, h2, ?_, ?_⟩⟩
    · rw [← h3, ← hsz, ← Array.length_toList]
      conv => rhs; rw [hsplit]
    · exact congrArg (fun c => [(g, Obj.cells c 3 (0, 0))]) hsplit
end Go.Proofs.YtgppcfgnhahnaaaDoor
