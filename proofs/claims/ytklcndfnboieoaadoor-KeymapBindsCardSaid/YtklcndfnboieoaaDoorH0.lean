import Derived.Test.YtklcndfnboieoaaDoorProg
import Derived.Test.YtklcndfnboieoaaDoorPKeymapParsesx1
import Derived.WalkKit
import Derived.Laws.Rows
import Derived.Test.YtklcndfnboieoaaDoorH00
import Derived.Lib.Hide
import Derived.RegionTactic
namespace Go.Proofs.YtklcndfnboieoaaDoor.H
open Go.RowKit Go.Proofs.YtklcndfnboieoaaDoorW.PrintWords Go.Proofs.YtklcndfnboieoaaDoorW.PrintLast Go.Proofs.YtklcndfnboieoaaDoorW.PrintMore Go.Proofs.YtklcndfnboieoaaDoor.PKeymapParses

/-- The cells of the table 'named'. -/
def tbl : Array Value := #[.int .u8 27, .int .u8 101, .int .u8 127, .int .u8 100, .int .u8 9, .int .u8 116, .int .u8 10, .int .u8 110, .int .u8 92, .int .u8 92]
/-- The variable 'named' holds its table. -/
def Laid (w : World) : Prop := ∃ t fr, w.heap[0]? = some (.cells tbl t fr)
theorem Laid.lt {w : World} (h : Laid w) : 0 < w.heap.size := by
  obtain ⟨t, fr, h⟩ := h
  rcases Nat.lt_or_ge 0 w.heap.size with h' | h'
  · exact h'
  · simp [Array.getElem?_eq_none h'] at h
theorem Laid.below {B : Nat} {w w' : World} (h : Laid w) (hb : Below B w w') (hB : 0 < B) : Laid w' := by
  obtain ⟨t, fr, h⟩ := h
  exact ⟨t, fr, (hb.block 0 hB).trans h⟩
theorem Laid.step {w w' : World} (h : Laid w) (hb : Below w.heap.size w w') : Laid w' := h.below hb h.lt

/-- The keys and letters of the table. -/
def keyAt : Nat → Int | 0 => 27 | 1 => 127 | 2 => 9 | 3 => 10 | _ => 92
def letterAt : Nat → Int | 0 => 101 | 1 => 100 | 2 => 116 | 3 => 110 | _ => 92
def NoKey (c : Int) (k : Nat) : Prop := ∀ j, j < k → keyAt j ≠ c
def NoLetter (c : Int) (k : Nat) : Prop := ∀ j, j < k → letterAt j ≠ c
theorem NoKey.succ {c : Int} {k : Nat} (h : NoKey c k) (h1 : keyAt k ≠ c) : NoKey c (k + 1) := fun j hj => by
  rcases Nat.lt_or_ge j k with h2 | h2
  · exact h j h2
  · obtain rfl : j = k := by omega
    exact h1
theorem NoLetter.succ {c : Int} {k : Nat} (h : NoLetter c k) (h1 : letterAt k ≠ c) : NoLetter c (k + 1) := fun j hj => by
  rcases Nat.lt_or_ge j k with h2 | h2
  · exact h j h2
  · obtain rfl : j = k := by omega
    exact h1
theorem idx0 (w : World) : (Instr.index 63 (.agg tbl) (.int .i64 0)).run Tryd.prog w = .ok (.agg #[.int .u8 27, .int .u8 101]) w := by kernel_rfl
theorem idx1 (w : World) : (Instr.index 63 (.agg tbl) (.int .i64 1)).run Tryd.prog w = .ok (.agg #[.int .u8 127, .int .u8 100]) w := by kernel_rfl
theorem idx2 (w : World) : (Instr.index 63 (.agg tbl) (.int .i64 2)).run Tryd.prog w = .ok (.agg #[.int .u8 9, .int .u8 116]) w := by kernel_rfl
theorem idx3 (w : World) : (Instr.index 63 (.agg tbl) (.int .i64 3)).run Tryd.prog w = .ok (.agg #[.int .u8 10, .int .u8 110]) w := by kernel_rfl
theorem idx4 (w : World) : (Instr.index 63 (.agg tbl) (.int .i64 4)).run Tryd.prog w = .ok (.agg #[.int .u8 92, .int .u8 92]) w := by kernel_rfl
def digitsStr : ByteArray := ⟨#[48, 49, 50, 51, 52, 53, 54, 55, 56, 57, 97, 98, 99, 100, 101, 102]⟩
/-- What keymap.show gives. -/
def showB (c : Int) : ByteArray :=
  if c = 27 then ⟨#[92]⟩ ++ strOfNums [101] else if c = 127 then ⟨#[92]⟩ ++ strOfNums [100] else if c = 9 then ⟨#[92]⟩ ++ strOfNums [116] else if c = 10 then ⟨#[92]⟩ ++ strOfNums [110] else if c = 92 then ⟨#[92]⟩ ++ strOfNums [92]
  else if 1 ≤ c ∧ c ≤ 26 then ⟨#[92, 67, 45]⟩ ++ strOfNums [c - 1 + 97] else if 32 ≤ c ∧ c ≤ 126 then strOfNums [c] else ⟨#[92, 120]⟩ ++ strOfNums [bt digitsStr (c / 16), bt digitsStr (c % 16)]
theorem conv1 (w : World) (b : Nat) (x : Int) (h : b = w.heap.size) : (convert 47 9 (.slice (some ⟨b, 0, none⟩) 1 1)).run Tryd.prog (w.alloc (.cells #[.int .u8 x] 5)) = .ok (.string (strOfNums [x])) (w.alloc (.cells #[.int .u8 x] 5)) := by
  subst h
  refine string_of_reads Tryd.underlying47 Tryd.underlying5 Tryd.underlying9 ⟨rfl, by simp, fun _ => ⟨_, rfl, fun j hj => ?_⟩⟩
  obtain rfl : j = 0 := by omega
  exact (blk_cell (heap_alloc_new w _) 0).trans rfl
theorem conv2 (w : World) (b : Nat) (x y : Int) (h : b = w.heap.size) : (convert 47 9 (.slice (some ⟨b, 0, none⟩) 2 2)).run Tryd.prog (w.alloc (.cells #[.int .u8 x, .int .u8 y] 5)) = .ok (.string (strOfNums [x, y])) (w.alloc (.cells #[.int .u8 x, .int .u8 y] 5)) := by
  subst h
  refine string_of_reads Tryd.underlying47 Tryd.underlying5 Tryd.underlying9 ⟨rfl, by simp, fun _ => ⟨_, rfl, fun j hj => ?_⟩⟩
  rcases (by omega : j = 0 ∨ j = 1) with rfl | rfl
  · exact (blk_cell (heap_alloc_new w _) 0).trans rfl
  · exact (blk_cell (heap_alloc_new w _) 1).trans rfl

theorem conv2d (w : World) (b : Nat) (x y : Int) (h : b = w.heap.size) : (convert 47 9 (.slice (some ⟨b, 0, none⟩) 2 2)).run Tryd.prog (w.alloc (.cells #[.int .u8 x, .int .u8 y] 5)).drew = .ok (.string (strOfNums [x, y])) (w.alloc (.cells #[.int .u8 x, .int .u8 y] 5)).drew := by
  have := conv2 w.drew b x y h
  exact this
theorem ixd (w : World) (i : Int) (h0 : 0 ≤ i) (h1 : i < 16) : (Instr.index 9 (.string ⟨#[48, 49, 50, 51, 52, 53, 54, 55, 56, 57, 97, 98, 99, 100, 101, 102]⟩) (.int .u8 i)).run Tryd.prog w = .ok (.int .u8 (bt digitsStr i)) w := by
  have hs : digitsStr.size = 16 := rfl
  show (Instr.index 9 (.string digitsStr) (.int .u8 i)).run Tryd.prog w = _
  rw [run_index_string w 9 digitsStr .u8 i Tryd.underlying9, dif_pos ⟨h0, by rw [hs]; omega⟩, bt_at]
theorem size2 (x y : Int) : (strOfNums [x, y]).size = 2 := rfl
set_option maxHeartbeats 400000 in
theorem show_calls (c : Int) (w : World) (h0 : 0 ≤ c) (h1 : c ≤ 255) (hG : Laid w) :
    Calls Tryd.prog 29 #[.int .u8 c] w fun e w' => e = .returned (.string (showB c)) ∧ Below w.heap.size w w' := by
  obtain ⟨tt, fr, hg⟩ := hG
  have hgl : 0 < w.heap.size := Laid.lt ⟨tt, fr, hg⟩
  have HB := Aside0.mk (Below.refl w.heap.size w)
  go_enter Tryd.func29, Tryd.ntmps29
  go_wp2_with (refine wpList_load_row rfl 63 _ rfl 0 rfl tt _ fr _ hg Tryd.underlying63 rfl (by kernel_rfl) ?_)
  clear hg
  have i0 := idx0; have i1 := idx1; have i2 := idx2; have i3 := idx3; have i4 := idx4
  have cv1 := conv1; have cv2 := conv2d; have ixd0 := ixd; have sz2 := size2
  go_loopw [6] (fun i wr => ∃ k : Nat, k ≤ 5 ∧ i = .int .i64 k ∧ Aside0 (NoKey c k) ∧ Aside0 (Below w.heap.size w wr)) (fun i _ => 5 - (intOf i).toNat)
  case atStart => exact ⟨0, by omega, rfl, ⟨fun j hj => by omega⟩, HB⟩
  case round =>
    clear HB
    obtain ⟨k, hk, rfl, HN, HB⟩ := hrel
    rcases (by omega : k = 0 ∨ k = 1 ∨ k = 2 ∨ k = 3 ∨ k = 4 ∨ k = 5) with rfl | rfl | rfl | rfl | rfl | rfl
    · by_cases hc : c = 27
      · subst hc
        go_wp2
        go_ret
        exact ⟨rfl, (by repeat (first | (with_reducible first | exact HB.out | apply below_alloc | apply pw_below_drewN | apply below_drew1) | exact HB.out))⟩
      · have hc1 : (27 == c) = false := by simp; omega
        go_wp2
        exact ⟨⟨1, by omega, rfl, ⟨HN.out.succ (fun h => hc h.symm)⟩, ⟨(by repeat (first | (with_reducible first | exact HB.out | apply below_alloc | apply pw_below_drewN | apply below_drew1) | exact HB.out))⟩⟩, by simp [intOf]⟩
    · by_cases hc : c = 127
      · subst hc
        go_wp2
        go_ret
        exact ⟨rfl, (by repeat (first | (with_reducible first | exact HB.out | apply below_alloc | apply pw_below_drewN | apply below_drew1) | exact HB.out))⟩
      · have hc1 : (127 == c) = false := by simp; omega
        go_wp2
        exact ⟨⟨2, by omega, rfl, ⟨HN.out.succ (fun h => hc h.symm)⟩, ⟨(by repeat (first | (with_reducible first | exact HB.out | apply below_alloc | apply pw_below_drewN | apply below_drew1) | exact HB.out))⟩⟩, by simp [intOf]⟩
    · by_cases hc : c = 9
      · subst hc
        go_wp2
        go_ret
        exact ⟨rfl, (by repeat (first | (with_reducible first | exact HB.out | apply below_alloc | apply pw_below_drewN | apply below_drew1) | exact HB.out))⟩
      · have hc1 : (9 == c) = false := by simp; omega
        go_wp2
        exact ⟨⟨3, by omega, rfl, ⟨HN.out.succ (fun h => hc h.symm)⟩, ⟨(by repeat (first | (with_reducible first | exact HB.out | apply below_alloc | apply pw_below_drewN | apply below_drew1) | exact HB.out))⟩⟩, by simp [intOf]⟩
    · by_cases hc : c = 10
      · subst hc
        go_wp2
        go_ret
        exact ⟨rfl, (by repeat (first | (with_reducible first | exact HB.out | apply below_alloc | apply pw_below_drewN | apply below_drew1) | exact HB.out))⟩
      · have hc1 : (10 == c) = false := by simp; omega
        go_wp2
        exact ⟨⟨4, by omega, rfl, ⟨HN.out.succ (fun h => hc h.symm)⟩, ⟨(by repeat (first | (with_reducible first | exact HB.out | apply below_alloc | apply pw_below_drewN | apply below_drew1) | exact HB.out))⟩⟩, by simp [intOf]⟩
    · by_cases hc : c = 92
      · subst hc
        go_wp2
        go_ret
        exact ⟨rfl, (by repeat (first | (with_reducible first | exact HB.out | apply below_alloc | apply pw_below_drewN | apply below_drew1) | exact HB.out))⟩
      · have hc1 : (92 == c) = false := by simp; omega
        go_wp2
        exact ⟨⟨5, by omega, rfl, ⟨HN.out.succ (fun h => hc h.symm)⟩, ⟨(by repeat (first | (with_reducible first | exact HB.out | apply below_alloc | apply pw_below_drewN | apply below_drew1) | exact HB.out))⟩⟩, by simp [intOf]⟩
    · have n0 : ¬ c = 27 := fun h => HN.out 0 (by omega) h.symm
      have n1 : ¬ c = 127 := fun h => HN.out 1 (by omega) h.symm
      have n2 : ¬ c = 9 := fun h => HN.out 2 (by omega) h.symm
      have n3 : ¬ c = 10 := fun h => HN.out 3 (by omega) h.symm
      have n4 : ¬ c = 92 := fun h => HN.out 4 (by omega) h.symm
      have hs := Lib.hid (show showB c = if 1 ≤ c ∧ c ≤ 26 then ⟨#[92, 67, 45]⟩ ++ strOfNums [c - 1 + 97] else if 32 ≤ c ∧ c ≤ 126 then strOfNums [c] else ⟨#[92, 120]⟩ ++ strOfNums [bt digitsStr (c / 16), bt digitsStr (c % 16)] by simp [showB, n0, n1, n2, n3, n4])
      clear n0 n1 n2 n3 n4 hk HN i0 i1 i2 i3 i4
      by_cases g1 : 1 ≤ c ∧ c ≤ 26
      · have hs2 := Lib.hid (hs.out.trans (if_pos g1))
        obtain ⟨g1, g2⟩ := g1
        clear hs
        go_wp2
        go_ret
        exact ⟨by rw [hs2.out]; rfl, (by repeat (first | (with_reducible first | exact HB.out | apply below_alloc | apply pw_below_drewN | apply below_drew1) | exact HB.out))⟩
      · have hs2 := Lib.hid (hs.out.trans (if_neg g1))
        clear hs
        by_cases g2 : 32 ≤ c ∧ c ≤ 126
        · have hs3 := Lib.hid (hs2.out.trans (if_pos g2))
          obtain ⟨g3, g4⟩ := g2
          clear hs2 g1
          have g5 : decide (c ≤ 26) = false := by simp; omega
          go_wp2
          go_ret
          exact ⟨by rw [hs3.out]; rfl, (by repeat (first | (with_reducible first | exact HB.out | apply below_alloc | apply pw_below_drewN | apply below_drew1) | exact HB.out))⟩
        · have hs3 := Lib.hid (hs2.out.trans (if_neg g2))
          clear hs2
          have q0 : 0 ≤ c / 16 := by omega
          have q1 : c / 16 < 16 := by omega
          have r0 : 0 ≤ c % 16 := by omega
          have r1 : c % 16 < 16 := by omega
          rcases (by omega : c < 1 ∨ 26 < c ∧ c < 32 ∨ 126 < c) with g3 | ⟨g3, g4⟩ | g3
          · clear g1 g2
            have g5 : decide (1 ≤ c) = false := by simp; omega
            have g6 : decide (32 ≤ c) = false := by simp; omega
            go_wp2
            go_region
            go_wp2
            go_ret
            exact ⟨by rw [hs3.out]; rfl, (by repeat (first | (with_reducible first | exact HB.out | apply below_alloc | apply pw_below_drewN | apply below_drew1) | exact HB.out))⟩
          · clear g1 g2
            have g5 : decide (c ≤ 26) = false := by simp; omega
            have g6 : decide (32 ≤ c) = false := by simp; omega
            go_wp2
            go_region
            go_wp2
            go_ret
            exact ⟨by rw [hs3.out]; rfl, (by repeat (first | (with_reducible first | exact HB.out | apply below_alloc | apply pw_below_drewN | apply below_drew1) | exact HB.out))⟩
          · clear g1 g2
            have g5 : decide (c ≤ 26) = false := by simp; omega
            have g6 : decide (c ≤ 126) = false := by simp; omega
            go_wp2
            go_region
            go_wp2
            go_ret
            exact ⟨by rw [hs3.out]; rfl, (by repeat (first | (with_reducible first | exact HB.out | apply below_alloc | apply pw_below_drewN | apply below_drew1) | exact HB.out))⟩
end Go.Proofs.YtklcndfnboieoaaDoor.H
