import Derived.Test.YtoakooebmnjkhaaPWin
import Derived.Shelf.SortG.Plain
import Derived.Shelf.SortG.SortNone
import Derived.Sort.OwnSortedInts
namespace Go.Proofs.Ytoakooebmnjkhaa.Q
open Go.Shelf Go.RowKit Go.Proofs.YtoakooebmnjkhaaW.PrintWords Go.Proofs.YtoakooebmnjkhaaW.PrintLast Go.Proofs.YtoakooebmnjkhaaW.PrintMore Go.Proofs.YtoakooebmnjkhaaV
set_option linter.unusedVariables false
set_option linter.unusedSimpArgs false

def lays53_ren : Go.Shelf.Ren := ⟨fun | 53 => 39 | 64 => 42 | 63 => 41 | 78 => 52 | 79 => 53 | 70 => 43 | 71 => 44 | 72 => 45 | 73 => 46 | 74 => 47 | 75 => 48 | 59 => 49 | 76 => 50 | 77 => 51 | 88 => 54 | 89 => 55 | 90 => 56 | 91 => 57 | 92 => 58 | 68 => 59 | 96 => 60 | n => n, fun | 22 => 30 | 23 => 2 | 3 => 3 | 51 => 66 | 0 => 0 | 67 => 76 | 69 => 59 | 4 => 4 | 61 => 69 | 60 => 68 | 44 => 73 | 5 => 5 | 9 => 9 | 75 => 78 | 79 => 82 | 83 => 84 | 84 => 85 | n => n, fun | n => n⟩
theorem lays53 : Go.Proofs.SlLaysN.n53 Try.prog lays53_ren where
  mixed := by kernel_rfl
  f53 := ⟨ "slices.Sort[[]int64,int64]", by decide, Try.func39.trans (congrArg some (by kernel_rfl))⟩
  f59 := ⟨ "cmp.Less[int64]", by decide, Try.func49.trans (congrArg some (by kernel_rfl))⟩
  f63 := ⟨ "slices.pdqsortOrdered[int64]", by decide, Try.func41.trans (congrArg some (by kernel_rfl))⟩
  f64 := Try.func42.trans (congrArg some (by kernel_rfl))
  f68 := ⟨ "cmp.isNaN[int64]", by decide, Try.func59.trans (congrArg some (by kernel_rfl))⟩
  f70 := ⟨ "slices.insertionSortOrdered[int64]", by decide, Try.func43.trans (congrArg some (by kernel_rfl))⟩
  f71 := ⟨ "slices.heapSortOrdered[int64]", by decide, Try.func44.trans (congrArg some (by kernel_rfl))⟩
  f72 := ⟨ "slices.breakPatternsOrdered[int64]", by decide, Try.func45.trans (congrArg some (by kernel_rfl))⟩
  f73 := ⟨ "slices.choosePivotOrdered[int64]", by decide, Try.func46.trans (congrArg some (by kernel_rfl))⟩
  f74 := ⟨ "slices.reverseRangeOrdered[int64]", by decide, Try.func47.trans (congrArg some (by kernel_rfl))⟩
  f75 := ⟨ "slices.partialInsertionSortOrdered[int64]", by decide, Try.func48.trans (congrArg some (by kernel_rfl))⟩
  f76 := ⟨ "slices.partitionEqualOrdered[int64]", by decide, Try.func50.trans (congrArg some (by kernel_rfl))⟩
  f77 := ⟨ "slices.partitionOrdered[int64]", by decide, Try.func51.trans (congrArg some (by kernel_rfl))⟩
  f78 := Try.func52.trans (congrArg some (by kernel_rfl))
  f79 := Try.func53.trans (congrArg some (by kernel_rfl))
  f88 := ⟨ "slices.siftDownOrdered[int64]", by decide, Try.func54.trans (congrArg some (by kernel_rfl))⟩
  f89 := Try.func55.trans (congrArg some (by kernel_rfl))
  f90 := Try.func56.trans (congrArg some (by kernel_rfl))
  f91 := ⟨ "slices.medianAdjacentOrdered[int64]", by decide, Try.func57.trans (congrArg some (by kernel_rfl))⟩
  f92 := ⟨ "slices.medianOrdered[int64]", by decide, Try.func58.trans (congrArg some (by kernel_rfl))⟩
  f96 := ⟨ "slices.order2Ordered[int64]", by decide, Try.func60.trans (congrArg some (by kernel_rfl))⟩
  t0 := Try.underlying0
  a0 := Try.isAgg0
  z0 := Try.sizeOf0
  v0 := Try.zeroValue0
  t3 := Try.underlying3
  a3 := Try.isAgg3
  z3 := Try.sizeOf3
  v3 := Try.zeroValue3
  t4 := Try.underlying4
  a4 := Try.isAgg4
  z4 := Try.sizeOf4
  v4 := Try.zeroValue4
  t5 := Try.underlying5
  a5 := Try.isAgg5
  z5 := Try.sizeOf5
  v5 := Try.zeroValue5
  t9 := Try.underlying9
  a9 := Try.isAgg9
  z9 := Try.sizeOf9
  v9 := Try.zeroValue9
  t22 := Try.underlying30
  a22 := Try.isAgg30
  z22 := Try.sizeOf30
  v22 := Try.zeroValue30
  t23 := Try.underlying2
  a23 := Try.isAgg2
  z23 := Try.sizeOf2
  v23 := Try.zeroValue2
  t44 := Try.underlying73
  a44 := Try.isAgg73
  z44 := Try.sizeOf73
  v44 := Try.zeroValue73
  t51 := Try.underlying66
  a51 := Try.isAgg66
  z51 := Try.sizeOf66
  v51 := Try.zeroValue66
  t60 := Try.underlying68
  a60 := Try.isAgg68
  z60 := Try.sizeOf68
  v60 := Try.zeroValue68
  t61 := Try.underlying69
  a61 := Try.isAgg69
  z61 := Try.sizeOf69
  v61 := Try.zeroValue69
  t67 := Try.underlying76
  a67 := Try.isAgg76
  z67 := Try.sizeOf76
  v67 := Try.zeroValue76
  t69 := Try.underlying59
  a69 := Try.isAgg59
  z69 := Try.sizeOf59
  v69 := Try.zeroValue59
  t75 := Try.underlying78
  a75 := Try.isAgg78
  z75 := Try.sizeOf78
  v75 := Try.zeroValue78
  t79 := Try.underlying82
  a79 := Try.isAgg82
  z79 := Try.sizeOf82
  v79 := Try.zeroValue82
  t83 := Try.underlying84
  a83 := Try.isAgg84
  z83 := Try.sizeOf84
  v83 := Try.zeroValue84
  t84 := Try.underlying85
  a84 := Try.isAgg85
  z84 := Try.sizeOf85
  v84 := Try.zeroValue85

/-- slices.Sort of int64s that the call itself has made. -/
theorem win_sort {w : World} {base : Nat} {ok : Nat → Prop} {A : Option Addr} {n c : Nat} {l : List Int} (h : Kd.R (Kd.int .i64) 2 w base ok (.slice A n c) l) (hl : l.length ≤ 1000000) :
    Calls Try.prog 39 #[.slice A n c] w fun e w' => e = .returned (.tuple #[]) ∧ Kd.R (Kd.int .i64) 2 w' base ok (.slice A n c) (l.mergeSort (fun x y => decide (x ≤ y))) ∧ Keep w w' (fun k => (Value.slice A n c).ownBlock = some k) := by
  obtain ⟨hn, -, -⟩ := Kd.R_reads' h
  subst hn
  by_cases h0 : l = []
  · subst h0
    refine (AnyG.slices_Sort_int_none lays53 A c w).mono ?_
    rintro e w' ⟨rfl, rfl⟩
    exact ⟨rfl, by rw [List.mergeSort_nil]; exact h, Keep.refl _ _⟩
  · have hown := Kd.own_of_R h
    have hok := h.1
    rcases hown.2 with ⟨-, q⟩ | ⟨g, cap, cur, e, hg, hb, h1, h2, h3, h4⟩
    · exact absurd (List.length_eq_zero_iff.1 q) h0
    · injection e with e1 e2 e3
      subst e1
      subst e3
      have hH := holds_of_blockI hb (ss := l) (by rw [Nat.mul_one] at h4; exact h4)
      refine (AnyG.slices_Sort_int lays53 g 0 c l w hH (blk_lt hb) (by omega)).mono ?_
      rintro e w' ⟨rfl, n1, os, rfl⟩
      have hs := ownsRow_sortedI (n := n1) (os := os) (ss := l) (ts := l.mergeSort (fun x y => decide (x ≤ y))) (List.length_mergeSort _) hg hb h1 h2 h3
      refine ⟨rfl, Kd.R_of_own (by rw [List.length_mergeSort]; exact hs) hok, ?_⟩
      have hgr := grownBy_sortedI (w := w) (g := g) (n := n1) (os := os) (l.mergeSort (fun x y => decide (x ≤ y))).toArray
      exact ⟨hgr.os, hgr.tape, hgr.output, hgr.size, fun k hk hS => hgr.block k hk (fun e => hS e.symm)⟩
end Go.Proofs.Ytoakooebmnjkhaa.Q
