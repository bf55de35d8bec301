/- Texts of this claim, joined: Px11. -/
import Derived.Test.YtlbbjdggebgabaaRVM3
import Derived.Test.YtlbbjdggebgabaaRVM10
section
namespace Go.Proofs.Ytlbbjdggebgabaa.P
open Go.RowKit Go.Proofs.YtlbbjdggebgabaaW.PrintWords Go.Proofs.YtlbbjdggebgabaaW.PrintLast Go.Proofs.YtlbbjdggebgabaaW.PrintMore
attribute [local go_sem] max2_int min2_int max_two min_two max_three min_three max_four min_four   -- for this text's walks alone
set_option linter.unusedVariables false
set_option linter.unusedSimpArgs false

attribute [local go_sem high] eqA23
def jobshellref46_Same.l0 : Nat → Int → ByteArray → Int → Int → List ByteArray → List (S23) → List (S23) → ByteArray → Int → Int → ByteArray → ByteArray → Int → Int → List ByteArray → List (S23) → List (S23) → ByteArray → Int → Int → ByteArray → Option (Bool)
  | 0, _, _, _, _, _, _, _, _, _, _, _, _, _, _, _, _, _, _, _, _, _ => none
  | k + 1, x5, x351000, x351001, x351002, x351003, x351004, x351005, x351006, x351007, x351008, x351009, x352000, x352001, x352002, x352003, x352004, x352005, x352006, x352007, x352008, x352009 => if x5 < (x351003.length : Int) then (if 0 ≤ x5 then (if x5 < (x352003.length : Int) then (if (rdOf ByteArray.empty x351003 x5).toList = (rdOf ByteArray.empty x352003 x5).toList then (jobshellref46_Same.l0 k (wrap64 (x5 + 1)) x351000 x351001 x351002 x351003 x351004 x351005 x351006 x351007 x351008 x351009 x352000 x352001 x352002 x352003 x352004 x352005 x352006 x352007 x352008 x352009) else (some false)) else (none)) else (none)) else (if (x351000.toList == x352000.toList && (x351001 == x352001)) = true then (if x351002 = x352002 then ((jobshellref46_sameSnaps.f k x351004 x352004).bind fun t354 => (if t354 = true then ((jobshellref46_sameSnaps.f k x351005 x352005).bind fun t355 => (if t355 = true then (if x351006.toList = x352006.toList then (if x351007 = x352007 then (if x351008 = x352008 then (some (x351009.toList == x352009.toList)) else (some false)) else (some false)) else (some false)) else (some false))) else (some false))) else (some false)) else (some false))
def jobshellref46_Same.f (k : Nat) (a0_0 : ByteArray) (a0_1 : Int) (a0_2 : Int) (l0_3 : List ByteArray) (l0_4 : List (S23)) (l0_5 : List (S23)) (a0_6 : ByteArray) (a0_7 : Int) (a0_8 : Int) (a0_9 : ByteArray) (a1_0 : ByteArray) (a1_1 : Int) (a1_2 : Int) (l1_3 : List ByteArray) (l1_4 : List (S23)) (l1_5 : List (S23)) (a1_6 : ByteArray) (a1_7 : Int) (a1_8 : Int) (a1_9 : ByteArray) : Option (Bool) := if (l0_3.length : Int) = (l1_3.length : Int) then (jobshellref46_Same.l0 k 0 a0_0 a0_1 a0_2 l0_3 l0_4 l0_5 a0_6 a0_7 a0_8 a0_9 a1_0 a1_1 a1_2 l1_3 l1_4 l1_5 a1_6 a1_7 a1_8 a1_9) else (some false)
set_option maxHeartbeats 8000000 in
set_option maxRecDepth 100000 in
theorem jobshellref46_Same.calls (k : Nat) (a0_0 : ByteArray) (a0_1 : Int) (a0_2 : Int) (A0_3 : Option Addr) (c0_3 : Nat) (l0_3 : List ByteArray) (A0_4 : Option Addr) (c0_4 : Nat) (l0_4 : List (S23)) (A0_5 : Option Addr) (c0_5 : Nat) (l0_5 : List (S23)) (a0_6 : ByteArray) (a0_7 : Int) (a0_8 : Int) (a0_9 : ByteArray) (a1_0 : ByteArray) (a1_1 : Int) (a1_2 : Int) (A1_3 : Option Addr) (c1_3 : Nat) (l1_3 : List ByteArray) (A1_4 : Option Addr) (c1_4 : Nat) (l1_4 : List (S23)) (A1_5 : Option Addr) (c1_5 : Nat) (l1_5 : List (S23)) (a1_6 : ByteArray) (a1_7 : Int) (a1_8 : Int) (a1_9 : ByteArray) (r : Bool) (w : World) (hr0_3 : Kd.C Kd.string w A0_3 l0_3.length l0_3) (hc0_3 : l0_3.length ≤ c0_3) (hr0_4 : Kd.C k23 w A0_4 l0_4.length l0_4) (hc0_4 : l0_4.length ≤ c0_4) (hr0_5 : Kd.C k23 w A0_5 l0_5.length l0_5) (hc0_5 : l0_5.length ≤ c0_5) (hr1_3 : Kd.C Kd.string w A1_3 l1_3.length l1_3) (hc1_3 : l1_3.length ≤ c1_3) (hr1_4 : Kd.C k23 w A1_4 l1_4.length l1_4) (hc1_4 : l1_4.length ≤ c1_4) (hr1_5 : Kd.C k23 w A1_5 l1_5.length l1_5) (hc1_5 : l1_5.length ≤ c1_5) (h : jobshellref46_Same.f k a0_0 a0_1 a0_2 l0_3 l0_4 l0_5 a0_6 a0_7 a0_8 a0_9 a1_0 a1_1 a1_2 l1_3 l1_4 l1_5 a1_6 a1_7 a1_8 a1_9 = some r) :
    Calls Try.prog 13 #[.agg #[.string a0_0, .int .i64 a0_1, .int .i64 a0_2, .slice A0_3 l0_3.length c0_3, .slice A0_4 l0_4.length c0_4, .slice A0_5 l0_5.length c0_5, .string a0_6, .int .i64 a0_7, .int .i64 a0_8, .string a0_9], .agg #[.string a1_0, .int .i64 a1_1, .int .i64 a1_2, .slice A1_3 l1_3.length c1_3, .slice A1_4 l1_4.length c1_4, .slice A1_5 l1_5.length c1_5, .string a1_6, .int .i64 a1_7, .int .i64 a1_8, .string a1_9]] w fun e w' => e = .returned (.bool r) ∧ Below w.heap.size w w' := by
  have hu27 := Try.underlying27
  have hu23 := Try.underlying23
  have HR0_3 := Aside0.mk hr0_3
  have HC0_3 := Aside0.mk hc0_3
  clear hr0_3 hc0_3
  have HR0_4 := Aside0.mk hr0_4
  have HC0_4 := Aside0.mk hc0_4
  clear hr0_4 hc0_4
  have HR0_5 := Aside0.mk hr0_5
  have HC0_5 := Aside0.mk hc0_5
  clear hr0_5 hc0_5
  have HR1_3 := Aside0.mk hr1_3
  have HC1_3 := Aside0.mk hc1_3
  clear hr1_3 hc1_3
  have HR1_4 := Aside0.mk hr1_4
  have HC1_4 := Aside0.mk hc1_4
  clear hr1_4 hc1_4
  have HR1_5 := Aside0.mk hr1_5
  have HC1_5 := Aside0.mk hc1_5
  clear hr1_5 hc1_5
  have HB := Aside0.mk (Below.refl w.heap.size w)
  have H : (if (l0_3.length : Int) = (l1_3.length : Int) then (jobshellref46_Same.l0 k 0 a0_0 a0_1 a0_2 l0_3 l0_4 l0_5 a0_6 a0_7 a0_8 a0_9 a1_0 a1_1 a1_2 l1_3 l1_4 l1_5 a1_6 a1_7 a1_8 a1_9) else (some false)) = some r := h
  clear h
  by_cases c3 : (l0_3.length : Int) = (l1_3.length : Int)
  · rw [if_pos c3] at H
    have c3b0 : ((l0_3.length : Int) == (l1_3.length : Int)) = true := beq_iff_eq.mpr c3
    have c3b1 : ((l0_3.length : Int) != (l1_3.length : Int)) = false := bne_eq_false_iff_eq.mpr c3
    have c3b2 : (l0_3.length == l1_3.length) = true := by first | simpa using c3 | (simp at c3 ⊢; omega)
    clear c3
    have H' := Aside0.mk H
    clear H
    go_enter Try.func13, Try.ntmps13
    go_wp2_with (first | ((with_reducible refine gate_dst (N := 2) rfl ?_); refine box_event ?hg (N := 2) ?hd (cs := #[.string a0_0, .int .i64 a0_1, .int .i64 a0_2, .slice A0_3 l0_3.length c0_3, .slice A0_4 l0_4.length c0_4, .slice A0_5 l0_5.length c0_5, .string a0_6, .int .i64 a0_7, .int .i64 a0_8, .string a0_9]) (t := 27) ?hr ?_; (case hd => rfl); (case hg => rfl); (case hr => first | (go_simp; done) | (go_simp; rfl)); intro gb350 hg w4 hbox hb; have n0_ := Aside0.mk (below_step (by repeat (first | (with_reducible first | exact HB.out | apply below_alloc | apply pw_below_drewN | apply below_drew1) | exact HB.out)) hb); have n1_ := Aside0.mk (hbox); have n2_ := Aside0.mk ((by rw [hg]; exact (below_size (by repeat (first | (with_reducible first | exact HB.out | apply below_alloc | apply pw_below_drewN | apply below_drew1) | exact HB.out))) : w.heap.size ≤ gb350)); have n3_ := Aside0.mk ((by rw [hg]; exact (below_size (by repeat (first | (with_reducible first | exact HB.out | apply below_alloc | apply pw_below_drewN | apply below_drew1) | exact HB.out))) : w.heap.size ≤ gb350)); clear HB; have HB := n0_; have BK350 := n1_; have GW350 := n2_; have GE350 := n3_; clear n0_ n1_ n2_ n3_; clear hb hbox hg) | ((with_reducible refine gate_dst (N := 3) rfl ?_); refine box_event ?hg (N := 3) ?hd (cs := #[.string a1_0, .int .i64 a1_1, .int .i64 a1_2, .slice A1_3 l1_3.length c1_3, .slice A1_4 l1_4.length c1_4, .slice A1_5 l1_5.length c1_5, .string a1_6, .int .i64 a1_7, .int .i64 a1_8, .string a1_9]) (t := 27) ?hr ?_; (case hd => rfl); (case hg => rfl); (case hr => first | (go_simp; done) | (go_simp; rfl)); intro gb351 hg w5 hbox hb; have n0_ := Aside0.mk (blk_below (g := gb350) (o := .cells #[.string a0_0, .int .i64 a0_1, .int .i64 a0_2, .slice A0_3 l0_3.length c0_3, .slice A0_4 l0_4.length c0_4, .slice A0_5 l0_5.length c0_5, .string a0_6, .int .i64 a0_7, .int .i64 a0_8, .string a0_9] 27 (0, 0)) (by (with_reducible repeat (first | refine blk_drewN ?_ _ | refine blk_drew ?_ | refine blk_alloc ?_ _)); exact BK350.out) hb); have n1_ := Aside0.mk (below_step (by repeat (first | (with_reducible first | exact HB.out | apply below_alloc | apply pw_below_drewN | apply below_drew1 | refine below_set ?_ GE350.out) | exact HB.out)) hb); have n2_ := Aside0.mk (hbox); have n3_ := Aside0.mk ((by rw [hg]; exact (below_size (by repeat (first | (with_reducible first | exact HB.out | apply below_alloc | apply pw_below_drewN | apply below_drew1 | refine below_set ?_ GE350.out) | exact HB.out))) : w.heap.size ≤ gb351)); have n4_ := Aside0.mk ((by rw [hg]; exact (below_size (by repeat (first | (with_reducible first | exact HB.out | apply below_alloc | apply pw_below_drewN | apply below_drew1 | refine below_set ?_ GE350.out) | exact HB.out))) : w.heap.size ≤ gb351)); have n5_ := Aside0.mk ((by rw [hg]; exact Nat.ne_of_lt (blk_lt (g := gb350) (o := .cells #[.string a0_0, .int .i64 a0_1, .int .i64 a0_2, .slice A0_3 l0_3.length c0_3, .slice A0_4 l0_4.length c0_4, .slice A0_5 l0_5.length c0_5, .string a0_6, .int .i64 a0_7, .int .i64 a0_8, .string a0_9] 27 (0, 0)) (by (with_reducible repeat (first | refine blk_drewN ?_ _ | refine blk_drew ?_ | refine blk_alloc ?_ _)); exact BK350.out)) : gb350 ≠ gb351)); have n6_ := Aside0.mk ((by rw [hg]; exact Nat.ne_of_gt (blk_lt (g := gb350) (o := .cells #[.string a0_0, .int .i64 a0_1, .int .i64 a0_2, .slice A0_3 l0_3.length c0_3, .slice A0_4 l0_4.length c0_4, .slice A0_5 l0_5.length c0_5, .string a0_6, .int .i64 a0_7, .int .i64 a0_8, .string a0_9] 27 (0, 0)) (by (with_reducible repeat (first | refine blk_drewN ?_ _ | refine blk_drew ?_ | refine blk_alloc ?_ _)); exact BK350.out)) : gb351 ≠ gb350)); clear BK350; clear HB; have BK350 := n0_; have HB := n1_; have BK351 := n2_; have GW351 := n3_; have GE351 := n4_; have NB350_351 := n5_; have NB351_350 := n6_; clear n0_ n1_ n2_ n3_ n4_ n5_ n6_; clear hb hbox hg; have hnb6 := NB350_351.out; have hnc6 := NB351_350.out; have hcz7_0 : w5.cell? ⟨gb350, 0, none⟩ = some (.string a0_0) := (blk_cell BK350.out 0).trans rfl; have hcz7_1 : w5.cell? ⟨gb350, 1, none⟩ = some (.int .i64 a0_1) := (blk_cell BK350.out 1).trans rfl; have hcz7_2 : w5.cell? ⟨gb350, 2, none⟩ = some (.int .i64 a0_2) := (blk_cell BK350.out 2).trans rfl; have hcz7_3 : w5.cell? ⟨gb350, 3, none⟩ = some (.slice A0_3 l0_3.length c0_3) := (blk_cell BK350.out 3).trans rfl; have hcz7_4 : w5.cell? ⟨gb350, 4, none⟩ = some (.slice A0_4 l0_4.length c0_4) := (blk_cell BK350.out 4).trans rfl; have hcz7_5 : w5.cell? ⟨gb350, 5, none⟩ = some (.slice A0_5 l0_5.length c0_5) := (blk_cell BK350.out 5).trans rfl; have hcz7_6 : w5.cell? ⟨gb350, 6, none⟩ = some (.string a0_6) := (blk_cell BK350.out 6).trans rfl; have hcz7_7 : w5.cell? ⟨gb350, 7, none⟩ = some (.int .i64 a0_7) := (blk_cell BK350.out 7).trans rfl; have hcz7_8 : w5.cell? ⟨gb350, 8, none⟩ = some (.int .i64 a0_8) := (blk_cell BK350.out 8).trans rfl; have hcz7_9 : w5.cell? ⟨gb350, 9, none⟩ = some (.string a0_9) := (blk_cell BK350.out 9).trans rfl; have hfz7_0 := blk_frozen BK350.out 0; have hfz7_1 := blk_frozen BK350.out 1; have hfz7_2 := blk_frozen BK350.out 2; have hfz7_3 := blk_frozen BK350.out 3; have hfz7_4 := blk_frozen BK350.out 4; have hfz7_5 := blk_frozen BK350.out 5; have hfz7_6 := blk_frozen BK350.out 6; have hfz7_7 := blk_frozen BK350.out 7; have hfz7_8 := blk_frozen BK350.out 8; have hfz7_9 := blk_frozen BK350.out 9; have hcz8_0 : w5.cell? ⟨gb351, 0, none⟩ = some (.string a1_0) := (blk_cell BK351.out 0).trans rfl; have hcz8_1 : w5.cell? ⟨gb351, 1, none⟩ = some (.int .i64 a1_1) := (blk_cell BK351.out 1).trans rfl; have hcz8_2 : w5.cell? ⟨gb351, 2, none⟩ = some (.int .i64 a1_2) := (blk_cell BK351.out 2).trans rfl; have hcz8_3 : w5.cell? ⟨gb351, 3, none⟩ = some (.slice A1_3 l1_3.length c1_3) := (blk_cell BK351.out 3).trans rfl; have hcz8_4 : w5.cell? ⟨gb351, 4, none⟩ = some (.slice A1_4 l1_4.length c1_4) := (blk_cell BK351.out 4).trans rfl; have hcz8_5 : w5.cell? ⟨gb351, 5, none⟩ = some (.slice A1_5 l1_5.length c1_5) := (blk_cell BK351.out 5).trans rfl; have hcz8_6 : w5.cell? ⟨gb351, 6, none⟩ = some (.string a1_6) := (blk_cell BK351.out 6).trans rfl; have hcz8_7 : w5.cell? ⟨gb351, 7, none⟩ = some (.int .i64 a1_7) := (blk_cell BK351.out 7).trans rfl; have hcz8_8 : w5.cell? ⟨gb351, 8, none⟩ = some (.int .i64 a1_8) := (blk_cell BK351.out 8).trans rfl; have hcz8_9 : w5.cell? ⟨gb351, 9, none⟩ = some (.string a1_9) := (blk_cell BK351.out 9).trans rfl; have hfz8_0 := blk_frozen BK351.out 0; have hfz8_1 := blk_frozen BK351.out 1; have hfz8_2 := blk_frozen BK351.out 2; have hfz8_3 := blk_frozen BK351.out 3; have hfz8_4 := blk_frozen BK351.out 4; have hfz8_5 := blk_frozen BK351.out 5; have hfz8_6 := blk_frozen BK351.out 6; have hfz8_7 := blk_frozen BK351.out 7; have hfz8_8 := blk_frozen BK351.out 8; have hfz8_9 := blk_frozen BK351.out 9))
    repeat (go_quiet (first | ((with_reducible refine gate_dst (N := 2) rfl ?_); refine box_event ?hg (N := 2) ?hd (cs := #[.string a0_0, .int .i64 a0_1, .int .i64 a0_2, .slice A0_3 l0_3.length c0_3, .slice A0_4 l0_4.length c0_4, .slice A0_5 l0_5.length c0_5, .string a0_6, .int .i64 a0_7, .int .i64 a0_8, .string a0_9]) (t := 27) ?hr ?_; (case hd => rfl); (case hg => rfl); (case hr => first | (go_simp; done) | (go_simp; rfl)); intro gb350 hg w4 hbox hb; have n0_ := Aside0.mk (below_step (by repeat (first | (with_reducible first | exact HB.out | apply below_alloc | apply pw_below_drewN | apply below_drew1) | exact HB.out)) hb); have n1_ := Aside0.mk (hbox); have n2_ := Aside0.mk ((by rw [hg]; exact (below_size (by repeat (first | (with_reducible first | exact HB.out | apply below_alloc | apply pw_below_drewN | apply below_drew1) | exact HB.out))) : w.heap.size ≤ gb350)); have n3_ := Aside0.mk ((by rw [hg]; exact (below_size (by repeat (first | (with_reducible first | exact HB.out | apply below_alloc | apply pw_below_drewN | apply below_drew1) | exact HB.out))) : w.heap.size ≤ gb350)); clear HB; have HB := n0_; have BK350 := n1_; have GW350 := n2_; have GE350 := n3_; clear n0_ n1_ n2_ n3_; clear hb hbox hg) | ((with_reducible refine gate_dst (N := 3) rfl ?_); refine box_event ?hg (N := 3) ?hd (cs := #[.string a1_0, .int .i64 a1_1, .int .i64 a1_2, .slice A1_3 l1_3.length c1_3, .slice A1_4 l1_4.length c1_4, .slice A1_5 l1_5.length c1_5, .string a1_6, .int .i64 a1_7, .int .i64 a1_8, .string a1_9]) (t := 27) ?hr ?_; (case hd => rfl); (case hg => rfl); (case hr => first | (go_simp; done) | (go_simp; rfl)); intro gb351 hg w5 hbox hb; have n0_ := Aside0.mk (blk_below (g := gb350) (o := .cells #[.string a0_0, .int .i64 a0_1, .int .i64 a0_2, .slice A0_3 l0_3.length c0_3, .slice A0_4 l0_4.length c0_4, .slice A0_5 l0_5.length c0_5, .string a0_6, .int .i64 a0_7, .int .i64 a0_8, .string a0_9] 27 (0, 0)) (by (with_reducible repeat (first | refine blk_drewN ?_ _ | refine blk_drew ?_ | refine blk_alloc ?_ _)); exact BK350.out) hb); have n1_ := Aside0.mk (below_step (by repeat (first | (with_reducible first | exact HB.out | apply below_alloc | apply pw_below_drewN | apply below_drew1 | refine below_set ?_ GE350.out) | exact HB.out)) hb); have n2_ := Aside0.mk (hbox); have n3_ := Aside0.mk ((by rw [hg]; exact (below_size (by repeat (first | (with_reducible first | exact HB.out | apply below_alloc | apply pw_below_drewN | apply below_drew1 | refine below_set ?_ GE350.out) | exact HB.out))) : w.heap.size ≤ gb351)); have n4_ := Aside0.mk ((by rw [hg]; exact (below_size (by repeat (first | (with_reducible first | exact HB.out | apply below_alloc | apply pw_below_drewN | apply below_drew1 | refine below_set ?_ GE350.out) | exact HB.out))) : w.heap.size ≤ gb351)); have n5_ := Aside0.mk ((by rw [hg]; exact Nat.ne_of_lt (blk_lt (g := gb350) (o := .cells #[.string a0_0, .int .i64 a0_1, .int .i64 a0_2, .slice A0_3 l0_3.length c0_3, .slice A0_4 l0_4.length c0_4, .slice A0_5 l0_5.length c0_5, .string a0_6, .int .i64 a0_7, .int .i64 a0_8, .string a0_9] 27 (0, 0)) (by (with_reducible repeat (first | refine blk_drewN ?_ _ | refine blk_drew ?_ | refine blk_alloc ?_ _)); exact BK350.out)) : gb350 ≠ gb351)); have n6_ := Aside0.mk ((by rw [hg]; exact Nat.ne_of_gt (blk_lt (g := gb350) (o := .cells #[.string a0_0, .int .i64 a0_1, .int .i64 a0_2, .slice A0_3 l0_3.length c0_3, .slice A0_4 l0_4.length c0_4, .slice A0_5 l0_5.length c0_5, .string a0_6, .int .i64 a0_7, .int .i64 a0_8, .string a0_9] 27 (0, 0)) (by (with_reducible repeat (first | refine blk_drewN ?_ _ | refine blk_drew ?_ | refine blk_alloc ?_ _)); exact BK350.out)) : gb351 ≠ gb350)); clear BK350; clear HB; have BK350 := n0_; have HB := n1_; have BK351 := n2_; have GW351 := n3_; have GE351 := n4_; have NB350_351 := n5_; have NB351_350 := n6_; clear n0_ n1_ n2_ n3_ n4_ n5_ n6_; clear hb hbox hg; have hnb6 := NB350_351.out; have hnc6 := NB351_350.out; have hcz7_0 : w5.cell? ⟨gb350, 0, none⟩ = some (.string a0_0) := (blk_cell BK350.out 0).trans rfl; have hcz7_1 : w5.cell? ⟨gb350, 1, none⟩ = some (.int .i64 a0_1) := (blk_cell BK350.out 1).trans rfl; have hcz7_2 : w5.cell? ⟨gb350, 2, none⟩ = some (.int .i64 a0_2) := (blk_cell BK350.out 2).trans rfl; have hcz7_3 : w5.cell? ⟨gb350, 3, none⟩ = some (.slice A0_3 l0_3.length c0_3) := (blk_cell BK350.out 3).trans rfl; have hcz7_4 : w5.cell? ⟨gb350, 4, none⟩ = some (.slice A0_4 l0_4.length c0_4) := (blk_cell BK350.out 4).trans rfl; have hcz7_5 : w5.cell? ⟨gb350, 5, none⟩ = some (.slice A0_5 l0_5.length c0_5) := (blk_cell BK350.out 5).trans rfl; have hcz7_6 : w5.cell? ⟨gb350, 6, none⟩ = some (.string a0_6) := (blk_cell BK350.out 6).trans rfl; have hcz7_7 : w5.cell? ⟨gb350, 7, none⟩ = some (.int .i64 a0_7) := (blk_cell BK350.out 7).trans rfl; have hcz7_8 : w5.cell? ⟨gb350, 8, none⟩ = some (.int .i64 a0_8) := (blk_cell BK350.out 8).trans rfl; have hcz7_9 : w5.cell? ⟨gb350, 9, none⟩ = some (.string a0_9) := (blk_cell BK350.out 9).trans rfl; have hfz7_0 := blk_frozen BK350.out 0; have hfz7_1 := blk_frozen BK350.out 1; have hfz7_2 := blk_frozen BK350.out 2; have hfz7_3 := blk_frozen BK350.out 3; have hfz7_4 := blk_frozen BK350.out 4; have hfz7_5 := blk_frozen BK350.out 5; have hfz7_6 := blk_frozen BK350.out 6; have hfz7_7 := blk_frozen BK350.out 7; have hfz7_8 := blk_frozen BK350.out 8; have hfz7_9 := blk_frozen BK350.out 9; have hcz8_0 : w5.cell? ⟨gb351, 0, none⟩ = some (.string a1_0) := (blk_cell BK351.out 0).trans rfl; have hcz8_1 : w5.cell? ⟨gb351, 1, none⟩ = some (.int .i64 a1_1) := (blk_cell BK351.out 1).trans rfl; have hcz8_2 : w5.cell? ⟨gb351, 2, none⟩ = some (.int .i64 a1_2) := (blk_cell BK351.out 2).trans rfl; have hcz8_3 : w5.cell? ⟨gb351, 3, none⟩ = some (.slice A1_3 l1_3.length c1_3) := (blk_cell BK351.out 3).trans rfl; have hcz8_4 : w5.cell? ⟨gb351, 4, none⟩ = some (.slice A1_4 l1_4.length c1_4) := (blk_cell BK351.out 4).trans rfl; have hcz8_5 : w5.cell? ⟨gb351, 5, none⟩ = some (.slice A1_5 l1_5.length c1_5) := (blk_cell BK351.out 5).trans rfl; have hcz8_6 : w5.cell? ⟨gb351, 6, none⟩ = some (.string a1_6) := (blk_cell BK351.out 6).trans rfl; have hcz8_7 : w5.cell? ⟨gb351, 7, none⟩ = some (.int .i64 a1_7) := (blk_cell BK351.out 7).trans rfl; have hcz8_8 : w5.cell? ⟨gb351, 8, none⟩ = some (.int .i64 a1_8) := (blk_cell BK351.out 8).trans rfl; have hcz8_9 : w5.cell? ⟨gb351, 9, none⟩ = some (.string a1_9) := (blk_cell BK351.out 9).trans rfl; have hfz8_0 := blk_frozen BK351.out 0; have hfz8_1 := blk_frozen BK351.out 1; have hfz8_2 := blk_frozen BK351.out 2; have hfz8_3 := blk_frozen BK351.out 3; have hfz8_4 := blk_frozen BK351.out 4; have hfz8_5 := blk_frozen BK351.out 5; have hfz8_6 := blk_frozen BK351.out 6; have hfz8_7 := blk_frozen BK351.out 7; have hfz8_8 := blk_frozen BK351.out 8; have hfz8_9 := blk_frozen BK351.out 9)); try go_wp2_with (first | ((with_reducible refine gate_dst (N := 2) rfl ?_); refine box_event ?hg (N := 2) ?hd (cs := #[.string a0_0, .int .i64 a0_1, .int .i64 a0_2, .slice A0_3 l0_3.length c0_3, .slice A0_4 l0_4.length c0_4, .slice A0_5 l0_5.length c0_5, .string a0_6, .int .i64 a0_7, .int .i64 a0_8, .string a0_9]) (t := 27) ?hr ?_; (case hd => rfl); (case hg => rfl); (case hr => first | (go_simp; done) | (go_simp; rfl)); intro gb350 hg w4 hbox hb; have n0_ := Aside0.mk (below_step (by repeat (first | (with_reducible first | exact HB.out | apply below_alloc | apply pw_below_drewN | apply below_drew1) | exact HB.out)) hb); have n1_ := Aside0.mk (hbox); have n2_ := Aside0.mk ((by rw [hg]; exact (below_size (by repeat (first | (with_reducible first | exact HB.out | apply below_alloc | apply pw_below_drewN | apply below_drew1) | exact HB.out))) : w.heap.size ≤ gb350)); have n3_ := Aside0.mk ((by rw [hg]; exact (below_size (by repeat (first | (with_reducible first | exact HB.out | apply below_alloc | apply pw_below_drewN | apply below_drew1) | exact HB.out))) : w.heap.size ≤ gb350)); clear HB; have HB := n0_; have BK350 := n1_; have GW350 := n2_; have GE350 := n3_; clear n0_ n1_ n2_ n3_; clear hb hbox hg) | ((with_reducible refine gate_dst (N := 3) rfl ?_); refine box_event ?hg (N := 3) ?hd (cs := #[.string a1_0, .int .i64 a1_1, .int .i64 a1_2, .slice A1_3 l1_3.length c1_3, .slice A1_4 l1_4.length c1_4, .slice A1_5 l1_5.length c1_5, .string a1_6, .int .i64 a1_7, .int .i64 a1_8, .string a1_9]) (t := 27) ?hr ?_; (case hd => rfl); (case hg => rfl); (case hr => first | (go_simp; done) | (go_simp; rfl)); intro gb351 hg w5 hbox hb; have n0_ := Aside0.mk (blk_below (g := gb350) (o := .cells #[.string a0_0, .int .i64 a0_1, .int .i64 a0_2, .slice A0_3 l0_3.length c0_3, .slice A0_4 l0_4.length c0_4, .slice A0_5 l0_5.length c0_5, .string a0_6, .int .i64 a0_7, .int .i64 a0_8, .string a0_9] 27 (0, 0)) (by (with_reducible repeat (first | refine blk_drewN ?_ _ | refine blk_drew ?_ | refine blk_alloc ?_ _)); exact BK350.out) hb); have n1_ := Aside0.mk (below_step (by repeat (first | (with_reducible first | exact HB.out | apply below_alloc | apply pw_below_drewN | apply below_drew1 | refine below_set ?_ GE350.out) | exact HB.out)) hb); have n2_ := Aside0.mk (hbox); have n3_ := Aside0.mk ((by rw [hg]; exact (below_size (by repeat (first | (with_reducible first | exact HB.out | apply below_alloc | apply pw_below_drewN | apply below_drew1 | refine below_set ?_ GE350.out) | exact HB.out))) : w.heap.size ≤ gb351)); have n4_ := Aside0.mk ((by rw [hg]; exact (below_size (by repeat (first | (with_reducible first | exact HB.out | apply below_alloc | apply pw_below_drewN | apply below_drew1 | refine below_set ?_ GE350.out) | exact HB.out))) : w.heap.size ≤ gb351)); have n5_ := Aside0.mk ((by rw [hg]; exact Nat.ne_of_lt (blk_lt (g := gb350) (o := .cells #[.string a0_0, .int .i64 a0_1, .int .i64 a0_2, .slice A0_3 l0_3.length c0_3, .slice A0_4 l0_4.length c0_4, .slice A0_5 l0_5.length c0_5, .string a0_6, .int .i64 a0_7, .int .i64 a0_8, .string a0_9] 27 (0, 0)) (by (with_reducible repeat (first | refine blk_drewN ?_ _ | refine blk_drew ?_ | refine blk_alloc ?_ _)); exact BK350.out)) : gb350 ≠ gb351)); have n6_ := Aside0.mk ((by rw [hg]; exact Nat.ne_of_gt (blk_lt (g := gb350) (o := .cells #[.string a0_0, .int .i64 a0_1, .int .i64 a0_2, .slice A0_3 l0_3.length c0_3, .slice A0_4 l0_4.length c0_4, .slice A0_5 l0_5.length c0_5, .string a0_6, .int .i64 a0_7, .int .i64 a0_8, .string a0_9] 27 (0, 0)) (by (with_reducible repeat (first | refine blk_drewN ?_ _ | refine blk_drew ?_ | refine blk_alloc ?_ _)); exact BK350.out)) : gb351 ≠ gb350)); clear BK350; clear HB; have BK350 := n0_; have HB := n1_; have BK351 := n2_; have GW351 := n3_; have GE351 := n4_; have NB350_351 := n5_; have NB351_350 := n6_; clear n0_ n1_ n2_ n3_ n4_ n5_ n6_; clear hb hbox hg; have hnb6 := NB350_351.out; have hnc6 := NB351_350.out; have hcz7_0 : w5.cell? ⟨gb350, 0, none⟩ = some (.string a0_0) := (blk_cell BK350.out 0).trans rfl; have hcz7_1 : w5.cell? ⟨gb350, 1, none⟩ = some (.int .i64 a0_1) := (blk_cell BK350.out 1).trans rfl; have hcz7_2 : w5.cell? ⟨gb350, 2, none⟩ = some (.int .i64 a0_2) := (blk_cell BK350.out 2).trans rfl; have hcz7_3 : w5.cell? ⟨gb350, 3, none⟩ = some (.slice A0_3 l0_3.length c0_3) := (blk_cell BK350.out 3).trans rfl; have hcz7_4 : w5.cell? ⟨gb350, 4, none⟩ = some (.slice A0_4 l0_4.length c0_4) := (blk_cell BK350.out 4).trans rfl; have hcz7_5 : w5.cell? ⟨gb350, 5, none⟩ = some (.slice A0_5 l0_5.length c0_5) := (blk_cell BK350.out 5).trans rfl; have hcz7_6 : w5.cell? ⟨gb350, 6, none⟩ = some (.string a0_6) := (blk_cell BK350.out 6).trans rfl; have hcz7_7 : w5.cell? ⟨gb350, 7, none⟩ = some (.int .i64 a0_7) := (blk_cell BK350.out 7).trans rfl; have hcz7_8 : w5.cell? ⟨gb350, 8, none⟩ = some (.int .i64 a0_8) := (blk_cell BK350.out 8).trans rfl; have hcz7_9 : w5.cell? ⟨gb350, 9, none⟩ = some (.string a0_9) := (blk_cell BK350.out 9).trans rfl; have hfz7_0 := blk_frozen BK350.out 0; have hfz7_1 := blk_frozen BK350.out 1; have hfz7_2 := blk_frozen BK350.out 2; have hfz7_3 := blk_frozen BK350.out 3; have hfz7_4 := blk_frozen BK350.out 4; have hfz7_5 := blk_frozen BK350.out 5; have hfz7_6 := blk_frozen BK350.out 6; have hfz7_7 := blk_frozen BK350.out 7; have hfz7_8 := blk_frozen BK350.out 8; have hfz7_9 := blk_frozen BK350.out 9; have hcz8_0 : w5.cell? ⟨gb351, 0, none⟩ = some (.string a1_0) := (blk_cell BK351.out 0).trans rfl; have hcz8_1 : w5.cell? ⟨gb351, 1, none⟩ = some (.int .i64 a1_1) := (blk_cell BK351.out 1).trans rfl; have hcz8_2 : w5.cell? ⟨gb351, 2, none⟩ = some (.int .i64 a1_2) := (blk_cell BK351.out 2).trans rfl; have hcz8_3 : w5.cell? ⟨gb351, 3, none⟩ = some (.slice A1_3 l1_3.length c1_3) := (blk_cell BK351.out 3).trans rfl; have hcz8_4 : w5.cell? ⟨gb351, 4, none⟩ = some (.slice A1_4 l1_4.length c1_4) := (blk_cell BK351.out 4).trans rfl; have hcz8_5 : w5.cell? ⟨gb351, 5, none⟩ = some (.slice A1_5 l1_5.length c1_5) := (blk_cell BK351.out 5).trans rfl; have hcz8_6 : w5.cell? ⟨gb351, 6, none⟩ = some (.string a1_6) := (blk_cell BK351.out 6).trans rfl; have hcz8_7 : w5.cell? ⟨gb351, 7, none⟩ = some (.int .i64 a1_7) := (blk_cell BK351.out 7).trans rfl; have hcz8_8 : w5.cell? ⟨gb351, 8, none⟩ = some (.int .i64 a1_8) := (blk_cell BK351.out 8).trans rfl; have hcz8_9 : w5.cell? ⟨gb351, 9, none⟩ = some (.string a1_9) := (blk_cell BK351.out 9).trans rfl; have hfz8_0 := blk_frozen BK351.out 0; have hfz8_1 := blk_frozen BK351.out 1; have hfz8_2 := blk_frozen BK351.out 2; have hfz8_3 := blk_frozen BK351.out 3; have hfz8_4 := blk_frozen BK351.out 4; have hfz8_5 := blk_frozen BK351.out 5; have hfz8_6 := blk_frozen BK351.out 6; have hfz8_7 := blk_frozen BK351.out 7; have hfz8_8 := blk_frozen BK351.out 8; have hfz8_9 := blk_frozen BK351.out 9)))
    go_loopg [5] k (fun kq v5 w' => ∃ (x5_1 : Int), v5 = .int .i64 x5_1 ∧ Aside0 (jobshellref46_Same.l0 kq x5_1 a0_0 a0_1 a0_2 l0_3 l0_4 l0_5 a0_6 a0_7 a0_8 a0_9 a1_0 a1_1 a1_2 l1_3 l1_4 l1_5 a1_6 a1_7 a1_8 a1_9 = some r) ∧ Aside0 (kq ≤ k) ∧ Aside0 (w'.heap[gb350]? = some (.cells #[.string a0_0, .int .i64 a0_1, .int .i64 a0_2, (.slice A0_3 l0_3.length c0_3), (.slice A0_4 l0_4.length c0_4), (.slice A0_5 l0_5.length c0_5), .string a0_6, .int .i64 a0_7, .int .i64 a0_8, .string a0_9] 27 (0, 0))) ∧ Aside0 (w'.heap[gb351]? = some (.cells #[.string a1_0, .int .i64 a1_1, .int .i64 a1_2, (.slice A1_3 l1_3.length c1_3), (.slice A1_4 l1_4.length c1_4), (.slice A1_5 l1_5.length c1_5), .string a1_6, .int .i64 a1_7, .int .i64 a1_8, .string a1_9] 27 (0, 0))) ∧ Aside0 (Below w.heap.size w w'))
    case atStart => exact ⟨(0), (by first | rfl | (simp; done) | (simp [*]; done)), H', ⟨Nat.le_refl _⟩, ⟨by (with_reducible repeat (first | refine blk_drewN ?_ _ | refine blk_drew ?_ | refine blk_alloc ?_ _)); exact BK350.out⟩, ⟨by (with_reducible repeat (first | refine blk_drewN ?_ _ | refine blk_drew ?_ | refine blk_alloc ?_ _)); exact BK351.out⟩, ⟨by repeat (first | (with_reducible first | exact HB.out | apply below_alloc | apply pw_below_drewN | apply below_drew1 | refine below_set ?_ GE350.out | refine below_set ?_ GE351.out) | exact HB.out)⟩⟩
    case round =>
      clear H'
      try clear c1
      try clear p2
      try clear c3
      try clear c3b0
      try clear c3b1
      try clear c3b2
      try clear c6
      try clear hcz7_0
      try clear hcz7_1
      try clear hcz7_2
      try clear hcz7_3
      try clear hcz7_4
      try clear hcz7_5
      try clear hcz7_6
      try clear hcz7_7
      try clear hcz7_8
      try clear hcz7_9
      try clear hcz8_0
      try clear hcz8_1
      try clear hcz8_2
      try clear hcz8_3
      try clear hcz8_4
      try clear hcz8_5
      try clear hcz8_6
      try clear hcz8_7
      try clear hcz8_8
      try clear hcz8_9
      try clear hfz7_0
      try clear hfz7_1
      try clear hfz7_2
      try clear hfz7_3
      try clear hfz7_4
      try clear hfz7_5
      try clear hfz7_6
      try clear hfz7_7
      try clear hfz7_8
      try clear hfz7_9
      try clear hfz8_0
      try clear hfz8_1
      try clear hfz8_2
      try clear hfz8_3
      try clear hfz8_4
      try clear hfz8_5
      try clear hfz8_6
      try clear hfz8_7
      try clear hfz8_8
      try clear hfz8_9
      obtain ⟨x5_1, rfl, HA, HK1, BK350, BK351, HB⟩ := hrel
      cases gk with
      | zero => exact absurd HA.out (by simp [jobshellref46_Same.l0])
      | succ k1 =>
        have H := HA.out
        clear HA
        simp only [jobshellref46_Same.l0] at H
        by_cases c9 : x5_1 < (l0_3.length : Int)
        · rw [if_pos c9] at H
          have c9b0 : decide (x5_1 < (l0_3.length : Int)) = true := decide_eq_true c9
          clear c9
          by_cases c10 : 0 ≤ x5_1
          · rw [if_pos c10] at H
            have c10b0 : decide (0 ≤ x5_1) = true := decide_eq_true c10
            clear c10
            by_cases c11 : x5_1 < (l1_3.length : Int)
            · rw [if_pos c11] at H
              have c11b0 : decide (x5_1 < (l1_3.length : Int)) = true := decide_eq_true c11
              clear c11
              by_cases c12 : (rdOf ByteArray.empty l0_3 x5_1).toList = (rdOf ByteArray.empty l1_3 x5_1).toList
              · rw [if_pos c12] at H
                have c12b0 : ((rdOf ByteArray.empty l0_3 x5_1).toList == (rdOf ByteArray.empty l1_3 x5_1).toList) = true := beq_iff_eq.mpr c12
                have c12b1 : ((rdOf ByteArray.empty l0_3 x5_1).toList != (rdOf ByteArray.empty l1_3 x5_1).toList) = false := bne_eq_false_iff_eq.mpr c12
                clear c12
                have H' := Aside0.mk H
                clear H
                have hnb13 := NB350_351.out
                have hnc13 := NB351_350.out
                have hcz14_0 : wr.cell? ⟨gb350, 0, none⟩ = some (.string a0_0) := (blk_cell BK350.out 0).trans rfl
                have hcz14_1 : wr.cell? ⟨gb350, 1, none⟩ = some (.int .i64 a0_1) := (blk_cell BK350.out 1).trans rfl
                have hcz14_2 : wr.cell? ⟨gb350, 2, none⟩ = some (.int .i64 a0_2) := (blk_cell BK350.out 2).trans rfl
                have hcz14_3 : wr.cell? ⟨gb350, 3, none⟩ = some (.slice A0_3 l0_3.length c0_3) := (blk_cell BK350.out 3).trans rfl
                have hcz14_4 : wr.cell? ⟨gb350, 4, none⟩ = some (.slice A0_4 l0_4.length c0_4) := (blk_cell BK350.out 4).trans rfl
                have hcz14_5 : wr.cell? ⟨gb350, 5, none⟩ = some (.slice A0_5 l0_5.length c0_5) := (blk_cell BK350.out 5).trans rfl
                have hcz14_6 : wr.cell? ⟨gb350, 6, none⟩ = some (.string a0_6) := (blk_cell BK350.out 6).trans rfl
                have hcz14_7 : wr.cell? ⟨gb350, 7, none⟩ = some (.int .i64 a0_7) := (blk_cell BK350.out 7).trans rfl
                have hcz14_8 : wr.cell? ⟨gb350, 8, none⟩ = some (.int .i64 a0_8) := (blk_cell BK350.out 8).trans rfl
                have hcz14_9 : wr.cell? ⟨gb350, 9, none⟩ = some (.string a0_9) := (blk_cell BK350.out 9).trans rfl
                have hfz14_0 := blk_frozen BK350.out 0
                have hfz14_1 := blk_frozen BK350.out 1
                have hfz14_2 := blk_frozen BK350.out 2
                have hfz14_3 := blk_frozen BK350.out 3
                have hfz14_4 := blk_frozen BK350.out 4
                have hfz14_5 := blk_frozen BK350.out 5
                have hfz14_6 := blk_frozen BK350.out 6
                have hfz14_7 := blk_frozen BK350.out 7
                have hfz14_8 := blk_frozen BK350.out 8
                have hfz14_9 := blk_frozen BK350.out 9
                have p352 : 0 ≤ (x5_1 : Int) := of_decide_eq_true (by first | (with_reducible assumption) | assumption)
                have q352 : x5_1 < (l0_3.length : Int) := of_decide_eq_true (by first | (with_reducible assumption) | assumption)
                obtain ⟨ad352, e352, hx352_0⟩ := Kd.at_string HR0_3.out x5_1 p352 q352
                cases e352
                replace hx352_0 := (HB.out.cell (World.block_lt_of_cell? w _ hx352_0)).trans hx352_0
                replace p352 := eq_true p352
                replace q352 := eq_true q352
                have hcz15_0 : wr.cell? ⟨gb351, 0, none⟩ = some (.string a1_0) := (blk_cell BK351.out 0).trans rfl
                have hcz15_1 : wr.cell? ⟨gb351, 1, none⟩ = some (.int .i64 a1_1) := (blk_cell BK351.out 1).trans rfl
                have hcz15_2 : wr.cell? ⟨gb351, 2, none⟩ = some (.int .i64 a1_2) := (blk_cell BK351.out 2).trans rfl
                have hcz15_3 : wr.cell? ⟨gb351, 3, none⟩ = some (.slice A1_3 l1_3.length c1_3) := (blk_cell BK351.out 3).trans rfl
                have hcz15_4 : wr.cell? ⟨gb351, 4, none⟩ = some (.slice A1_4 l1_4.length c1_4) := (blk_cell BK351.out 4).trans rfl
                have hcz15_5 : wr.cell? ⟨gb351, 5, none⟩ = some (.slice A1_5 l1_5.length c1_5) := (blk_cell BK351.out 5).trans rfl
                have hcz15_6 : wr.cell? ⟨gb351, 6, none⟩ = some (.string a1_6) := (blk_cell BK351.out 6).trans rfl
                have hcz15_7 : wr.cell? ⟨gb351, 7, none⟩ = some (.int .i64 a1_7) := (blk_cell BK351.out 7).trans rfl
                have hcz15_8 : wr.cell? ⟨gb351, 8, none⟩ = some (.int .i64 a1_8) := (blk_cell BK351.out 8).trans rfl
                have hcz15_9 : wr.cell? ⟨gb351, 9, none⟩ = some (.string a1_9) := (blk_cell BK351.out 9).trans rfl
                have hfz15_0 := blk_frozen BK351.out 0
                have hfz15_1 := blk_frozen BK351.out 1
                have hfz15_2 := blk_frozen BK351.out 2
                have hfz15_3 := blk_frozen BK351.out 3
                have hfz15_4 := blk_frozen BK351.out 4
                have hfz15_5 := blk_frozen BK351.out 5
                have hfz15_6 := blk_frozen BK351.out 6
                have hfz15_7 := blk_frozen BK351.out 7
                have hfz15_8 := blk_frozen BK351.out 8
                have hfz15_9 := blk_frozen BK351.out 9
                have p353 : 0 ≤ (x5_1 : Int) := of_decide_eq_true (by first | (with_reducible assumption) | assumption)
                have q353 : x5_1 < (l1_3.length : Int) := of_decide_eq_true (by first | (with_reducible assumption) | assumption)
                obtain ⟨ad353, e353, hx353_0⟩ := Kd.at_string HR1_3.out x5_1 p353 q353
                cases e353
                replace hx353_0 := (HB.out.cell (World.block_lt_of_cell? w _ hx353_0)).trans hx353_0
                replace p353 := eq_true p353
                replace q353 := eq_true q353
                go_wp2
                repeat (go_quiet (fail); try go_wp2)
                go_roundg k1
                case measure => have := HK1.out; omega
                case rel => exact ⟨(wrap64 (x5_1 + 1)), (by first | rfl | (simp; done) | (simp [*]; done)), H', ⟨by have := HK1.out; omega⟩, ⟨by (with_reducible repeat (first | refine blk_drewN ?_ _ | refine blk_drew ?_ | refine blk_alloc ?_ _)); exact BK350.out⟩, ⟨by (with_reducible repeat (first | refine blk_drewN ?_ _ | refine blk_drew ?_ | refine blk_alloc ?_ _)); exact BK351.out⟩, ⟨by repeat (first | (with_reducible first | exact HB.out | apply below_alloc | apply pw_below_drewN | apply below_drew1 | refine below_set ?_ GE350.out | refine below_set ?_ GE351.out) | exact HB.out)⟩⟩
              · rw [if_neg c12] at H
                have c12b0 : ((rdOf ByteArray.empty l0_3 x5_1).toList == (rdOf ByteArray.empty l1_3 x5_1).toList) = false := beq_eq_false_iff_ne.mpr c12
                have c12b1 : ((rdOf ByteArray.empty l0_3 x5_1).toList != (rdOf ByteArray.empty l1_3 x5_1).toList) = true := bne_iff_ne.mpr c12
                obtain rfl := Option.some.inj H
                have hnb16 := NB350_351.out
                have hnc16 := NB351_350.out
                have hcz17_0 : wr.cell? ⟨gb350, 0, none⟩ = some (.string a0_0) := (blk_cell BK350.out 0).trans rfl
                have hcz17_1 : wr.cell? ⟨gb350, 1, none⟩ = some (.int .i64 a0_1) := (blk_cell BK350.out 1).trans rfl
                have hcz17_2 : wr.cell? ⟨gb350, 2, none⟩ = some (.int .i64 a0_2) := (blk_cell BK350.out 2).trans rfl
                have hcz17_3 : wr.cell? ⟨gb350, 3, none⟩ = some (.slice A0_3 l0_3.length c0_3) := (blk_cell BK350.out 3).trans rfl
                have hcz17_4 : wr.cell? ⟨gb350, 4, none⟩ = some (.slice A0_4 l0_4.length c0_4) := (blk_cell BK350.out 4).trans rfl
                have hcz17_5 : wr.cell? ⟨gb350, 5, none⟩ = some (.slice A0_5 l0_5.length c0_5) := (blk_cell BK350.out 5).trans rfl
                have hcz17_6 : wr.cell? ⟨gb350, 6, none⟩ = some (.string a0_6) := (blk_cell BK350.out 6).trans rfl
                have hcz17_7 : wr.cell? ⟨gb350, 7, none⟩ = some (.int .i64 a0_7) := (blk_cell BK350.out 7).trans rfl
                have hcz17_8 : wr.cell? ⟨gb350, 8, none⟩ = some (.int .i64 a0_8) := (blk_cell BK350.out 8).trans rfl
                have hcz17_9 : wr.cell? ⟨gb350, 9, none⟩ = some (.string a0_9) := (blk_cell BK350.out 9).trans rfl
                have hfz17_0 := blk_frozen BK350.out 0
                have hfz17_1 := blk_frozen BK350.out 1
                have hfz17_2 := blk_frozen BK350.out 2
                have hfz17_3 := blk_frozen BK350.out 3
                have hfz17_4 := blk_frozen BK350.out 4
                have hfz17_5 := blk_frozen BK350.out 5
                have hfz17_6 := blk_frozen BK350.out 6
                have hfz17_7 := blk_frozen BK350.out 7
                have hfz17_8 := blk_frozen BK350.out 8
                have hfz17_9 := blk_frozen BK350.out 9
                have p352 : 0 ≤ (x5_1 : Int) := of_decide_eq_true (by first | (with_reducible assumption) | assumption)
                have q352 : x5_1 < (l0_3.length : Int) := of_decide_eq_true (by first | (with_reducible assumption) | assumption)
                obtain ⟨ad352, e352, hx352_0⟩ := Kd.at_string HR0_3.out x5_1 p352 q352
                cases e352
                replace hx352_0 := (HB.out.cell (World.block_lt_of_cell? w _ hx352_0)).trans hx352_0
                replace p352 := eq_true p352
                replace q352 := eq_true q352
                have hcz18_0 : wr.cell? ⟨gb351, 0, none⟩ = some (.string a1_0) := (blk_cell BK351.out 0).trans rfl
                have hcz18_1 : wr.cell? ⟨gb351, 1, none⟩ = some (.int .i64 a1_1) := (blk_cell BK351.out 1).trans rfl
                have hcz18_2 : wr.cell? ⟨gb351, 2, none⟩ = some (.int .i64 a1_2) := (blk_cell BK351.out 2).trans rfl
                have hcz18_3 : wr.cell? ⟨gb351, 3, none⟩ = some (.slice A1_3 l1_3.length c1_3) := (blk_cell BK351.out 3).trans rfl
                have hcz18_4 : wr.cell? ⟨gb351, 4, none⟩ = some (.slice A1_4 l1_4.length c1_4) := (blk_cell BK351.out 4).trans rfl
                have hcz18_5 : wr.cell? ⟨gb351, 5, none⟩ = some (.slice A1_5 l1_5.length c1_5) := (blk_cell BK351.out 5).trans rfl
                have hcz18_6 : wr.cell? ⟨gb351, 6, none⟩ = some (.string a1_6) := (blk_cell BK351.out 6).trans rfl
                have hcz18_7 : wr.cell? ⟨gb351, 7, none⟩ = some (.int .i64 a1_7) := (blk_cell BK351.out 7).trans rfl
                have hcz18_8 : wr.cell? ⟨gb351, 8, none⟩ = some (.int .i64 a1_8) := (blk_cell BK351.out 8).trans rfl
                have hcz18_9 : wr.cell? ⟨gb351, 9, none⟩ = some (.string a1_9) := (blk_cell BK351.out 9).trans rfl
                have hfz18_0 := blk_frozen BK351.out 0
                have hfz18_1 := blk_frozen BK351.out 1
                have hfz18_2 := blk_frozen BK351.out 2
                have hfz18_3 := blk_frozen BK351.out 3
                have hfz18_4 := blk_frozen BK351.out 4
                have hfz18_5 := blk_frozen BK351.out 5
                have hfz18_6 := blk_frozen BK351.out 6
                have hfz18_7 := blk_frozen BK351.out 7
                have hfz18_8 := blk_frozen BK351.out 8
                have hfz18_9 := blk_frozen BK351.out 9
                have p353 : 0 ≤ (x5_1 : Int) := of_decide_eq_true (by first | (with_reducible assumption) | assumption)
                have q353 : x5_1 < (l1_3.length : Int) := of_decide_eq_true (by first | (with_reducible assumption) | assumption)
                obtain ⟨ad353, e353, hx353_0⟩ := Kd.at_string HR1_3.out x5_1 p353 q353
                cases e353
                replace hx353_0 := (HB.out.cell (World.block_lt_of_cell? w _ hx353_0)).trans hx353_0
                replace p353 := eq_true p353
                replace q353 := eq_true q353
                go_wp2
                repeat (go_quiet (fail); try go_wp2)
                go_ret
                exact ⟨by first | rfl | (simp [errW_none, errW_some] <;> rfl) | (simp [*, errW_none, errW_some] <;> rfl), by repeat (first | (with_reducible first | exact HB.out | apply below_alloc | apply pw_below_drewN | apply below_drew1 | refine below_set ?_ GE350.out | refine below_set ?_ GE351.out) | exact HB.out)⟩
            · rw [if_neg c11] at H
              exact absurd H (by simp)
          · rw [if_neg c10] at H
            exact absurd H (by simp)
        · rw [if_neg c9] at H
          have c9b0 : decide (x5_1 < (l0_3.length : Int)) = false := decide_eq_false c9
          clear c9
          by_cases c19 : (a0_0.toList == a1_0.toList && (a0_1 == a1_1)) = true
          · rw [if_pos c19] at H
            have c19b0 : (a0_0.toList == a1_0.toList && (a0_1 == a1_1)) = true := c19
            (try (have c19b1 : decide (a0_0.toList = a1_0.toList && (a0_1 == a1_1)) = true := by simpa using c19))
            (try (have c19b2 : (a0_0.toList == a1_0.toList && (a0_1 == a1_1)) = true := by simpa using c19))
            clear c19
            by_cases c20 : a0_2 = a1_2
            · rw [if_pos c20] at H
              have c20b0 : (a0_2 == a1_2) = true := beq_iff_eq.mpr c20
              have c20b1 : (a0_2 != a1_2) = false := bne_eq_false_iff_eq.mpr c20
              clear c20
              replace H := Option.bind_eq_some_iff.mp H
              obtain ⟨t354, A210, H⟩ := H
              replace H : (if t354 = true then ((jobshellref46_sameSnaps.f k1 l0_5 l1_5).bind fun t355 => (if t355 = true then (if a0_6.toList = a1_6.toList then (if a0_7 = a1_7 then (if a0_8 = a1_8 then (some (a0_9.toList == a1_9.toList)) else (some false)) else (some false)) else (some false)) else (some false))) else (some false)) = some r := H
              have A21 := Aside0.mk A210
              clear A210
              by_cases c22 : t354 = true
              · subst c22
                have H1 : ((jobshellref46_sameSnaps.f k1 l0_5 l1_5).bind fun t355 => (if t355 = true then (if a0_6.toList = a1_6.toList then (if a0_7 = a1_7 then (if a0_8 = a1_8 then (some (a0_9.toList == a1_9.toList)) else (some false)) else (some false)) else (some false)) else (some false))) = some r := by rw [if_pos rfl] at H; exact H
                clear H
                have H := H1
                clear H1
                replace H := Option.bind_eq_some_iff.mp H
                obtain ⟨t355, A230, H⟩ := H
                replace H : (if t355 = true then (if a0_6.toList = a1_6.toList then (if a0_7 = a1_7 then (if a0_8 = a1_8 then (some (a0_9.toList == a1_9.toList)) else (some false)) else (some false)) else (some false)) else (some false)) = some r := H
                have A23 := Aside0.mk A230
                clear A230
                by_cases c24 : t355 = true
                · subst c24
                  have H1 : (if a0_6.toList = a1_6.toList then (if a0_7 = a1_7 then (if a0_8 = a1_8 then (some (a0_9.toList == a1_9.toList)) else (some false)) else (some false)) else (some false)) = some r := by rw [if_pos rfl] at H; exact H
                  clear H
                  have H := H1
                  clear H1
                  by_cases c25 : a0_6.toList = a1_6.toList
                  · rw [if_pos c25] at H
                    have c25b0 : (a0_6.toList == a1_6.toList) = true := beq_iff_eq.mpr c25
                    have c25b1 : (a0_6.toList != a1_6.toList) = false := bne_eq_false_iff_eq.mpr c25
                    clear c25
                    by_cases c26 : a0_7 = a1_7
                    · rw [if_pos c26] at H
                      have c26b0 : (a0_7 == a1_7) = true := beq_iff_eq.mpr c26
                      have c26b1 : (a0_7 != a1_7) = false := bne_eq_false_iff_eq.mpr c26
                      clear c26
                      by_cases c27 : a0_8 = a1_8
                      · rw [if_pos c27] at H
                        have c27b0 : (a0_8 == a1_8) = true := beq_iff_eq.mpr c27
                        have c27b1 : (a0_8 != a1_8) = false := bne_eq_false_iff_eq.mpr c27
                        clear c27
                        obtain rfl := Option.some.inj H
                        have hnb28 := NB350_351.out
                        have hnc28 := NB351_350.out
                        have hcz29_0 : wr.cell? ⟨gb350, 0, none⟩ = some (.string a0_0) := (blk_cell BK350.out 0).trans rfl
                        have hcz29_1 : wr.cell? ⟨gb350, 1, none⟩ = some (.int .i64 a0_1) := (blk_cell BK350.out 1).trans rfl
                        have hcz29_2 : wr.cell? ⟨gb350, 2, none⟩ = some (.int .i64 a0_2) := (blk_cell BK350.out 2).trans rfl
                        have hcz29_3 : wr.cell? ⟨gb350, 3, none⟩ = some (.slice A0_3 l0_3.length c0_3) := (blk_cell BK350.out 3).trans rfl
                        have hcz29_4 : wr.cell? ⟨gb350, 4, none⟩ = some (.slice A0_4 l0_4.length c0_4) := (blk_cell BK350.out 4).trans rfl
                        have hcz29_5 : wr.cell? ⟨gb350, 5, none⟩ = some (.slice A0_5 l0_5.length c0_5) := (blk_cell BK350.out 5).trans rfl
                        have hcz29_6 : wr.cell? ⟨gb350, 6, none⟩ = some (.string a0_6) := (blk_cell BK350.out 6).trans rfl
                        have hcz29_7 : wr.cell? ⟨gb350, 7, none⟩ = some (.int .i64 a0_7) := (blk_cell BK350.out 7).trans rfl
                        have hcz29_8 : wr.cell? ⟨gb350, 8, none⟩ = some (.int .i64 a0_8) := (blk_cell BK350.out 8).trans rfl
                        have hcz29_9 : wr.cell? ⟨gb350, 9, none⟩ = some (.string a0_9) := (blk_cell BK350.out 9).trans rfl
                        have hfz29_0 := blk_frozen BK350.out 0
                        have hfz29_1 := blk_frozen BK350.out 1
                        have hfz29_2 := blk_frozen BK350.out 2
                        have hfz29_3 := blk_frozen BK350.out 3
                        have hfz29_4 := blk_frozen BK350.out 4
                        have hfz29_5 := blk_frozen BK350.out 5
                        have hfz29_6 := blk_frozen BK350.out 6
                        have hfz29_7 := blk_frozen BK350.out 7
                        have hfz29_8 := blk_frozen BK350.out 8
                        have hfz29_9 := blk_frozen BK350.out 9
                        have hcz30_0 : wr.cell? ⟨gb351, 0, none⟩ = some (.string a1_0) := (blk_cell BK351.out 0).trans rfl
                        have hcz30_1 : wr.cell? ⟨gb351, 1, none⟩ = some (.int .i64 a1_1) := (blk_cell BK351.out 1).trans rfl
                        have hcz30_2 : wr.cell? ⟨gb351, 2, none⟩ = some (.int .i64 a1_2) := (blk_cell BK351.out 2).trans rfl
                        have hcz30_3 : wr.cell? ⟨gb351, 3, none⟩ = some (.slice A1_3 l1_3.length c1_3) := (blk_cell BK351.out 3).trans rfl
                        have hcz30_4 : wr.cell? ⟨gb351, 4, none⟩ = some (.slice A1_4 l1_4.length c1_4) := (blk_cell BK351.out 4).trans rfl
                        have hcz30_5 : wr.cell? ⟨gb351, 5, none⟩ = some (.slice A1_5 l1_5.length c1_5) := (blk_cell BK351.out 5).trans rfl
                        have hcz30_6 : wr.cell? ⟨gb351, 6, none⟩ = some (.string a1_6) := (blk_cell BK351.out 6).trans rfl
                        have hcz30_7 : wr.cell? ⟨gb351, 7, none⟩ = some (.int .i64 a1_7) := (blk_cell BK351.out 7).trans rfl
                        have hcz30_8 : wr.cell? ⟨gb351, 8, none⟩ = some (.int .i64 a1_8) := (blk_cell BK351.out 8).trans rfl
                        have hcz30_9 : wr.cell? ⟨gb351, 9, none⟩ = some (.string a1_9) := (blk_cell BK351.out 9).trans rfl
                        have hfz30_0 := blk_frozen BK351.out 0
                        have hfz30_1 := blk_frozen BK351.out 1
                        have hfz30_2 := blk_frozen BK351.out 2
                        have hfz30_3 := blk_frozen BK351.out 3
                        have hfz30_4 := blk_frozen BK351.out 4
                        have hfz30_5 := blk_frozen BK351.out 5
                        have hfz30_6 := blk_frozen BK351.out 6
                        have hfz30_7 := blk_frozen BK351.out 7
                        have hfz30_8 := blk_frozen BK351.out 8
                        have hfz30_9 := blk_frozen BK351.out 9
                        go_wp2_with (first | (go_at_call 26; (with_reducible refine (jobshellref46_sameSnaps.calls k1 _ _ l0_4 _ _ l1_4 true _ ?side1 ?side2 ?side3 ?side4 A21.out).mono ?_); (case side1 => repeat (first | exact (Kd.C_below HR0_4.out HB.out) | (with_reducible refine Kd.C_alloc ?_ _) | (with_reducible refine Kd.C_drewN ?_ _) | (with_reducible refine Kd.C_drew ?_))); (case side2 => exact HC0_4.out); (case side3 => repeat (first | exact (Kd.C_below HR1_4.out HB.out) | (with_reducible refine Kd.C_alloc ?_ _) | (with_reducible refine Kd.C_drewN ?_ _) | (with_reducible refine Kd.C_drew ?_))); (case side4 => exact HC1_4.out); rintro e w' ⟨rfl, ⟨nd, rfl⟩⟩; (try first | exact ⟨rfl, _, World.drewN_drewN _ _ _⟩ | exact ⟨rfl, _, Eq.trans (World.drewN_drewN _ _ _) (congrArg (World.drewN _) (Nat.add_assoc _ _ _))⟩)) | (go_at_call 26; (with_reducible refine (jobshellref46_sameSnaps.calls k1 _ _ l0_5 _ _ l1_5 true _ ?side1 ?side2 ?side3 ?side4 A23.out).mono ?_); (case side1 => repeat (first | exact (Kd.C_below HR0_5.out (by repeat (first | (with_reducible first | exact HB.out | apply below_alloc | apply pw_below_drewN | apply below_drew1 | refine below_set ?_ GE350.out | refine below_set ?_ GE351.out) | exact HB.out))) | (with_reducible refine Kd.C_alloc ?_ _) | (with_reducible refine Kd.C_drewN ?_ _) | (with_reducible refine Kd.C_drew ?_))); (case side2 => exact HC0_5.out); (case side3 => repeat (first | exact (Kd.C_below HR1_5.out (by repeat (first | (with_reducible first | exact HB.out | apply below_alloc | apply pw_below_drewN | apply below_drew1 | refine below_set ?_ GE350.out | refine below_set ?_ GE351.out) | exact HB.out))) | (with_reducible refine Kd.C_alloc ?_ _) | (with_reducible refine Kd.C_drewN ?_ _) | (with_reducible refine Kd.C_drew ?_))); (case side4 => exact HC1_5.out); rintro e w' ⟨rfl, ⟨nd, rfl⟩⟩; (try first | exact ⟨rfl, _, World.drewN_drewN _ _ _⟩ | exact ⟨rfl, _, Eq.trans (World.drewN_drewN _ _ _) (congrArg (World.drewN _) (Nat.add_assoc _ _ _))⟩)))
                        repeat (go_quiet (first | (go_at_call 26; (with_reducible refine (jobshellref46_sameSnaps.calls k1 _ _ l0_4 _ _ l1_4 true _ ?side1 ?side2 ?side3 ?side4 A21.out).mono ?_); (case side1 => repeat (first | exact (Kd.C_below HR0_4.out HB.out) | (with_reducible refine Kd.C_alloc ?_ _) | (with_reducible refine Kd.C_drewN ?_ _) | (with_reducible refine Kd.C_drew ?_))); (case side2 => exact HC0_4.out); (case side3 => repeat (first | exact (Kd.C_below HR1_4.out HB.out) | (with_reducible refine Kd.C_alloc ?_ _) | (with_reducible refine Kd.C_drewN ?_ _) | (with_reducible refine Kd.C_drew ?_))); (case side4 => exact HC1_4.out); rintro e w' ⟨rfl, ⟨nd, rfl⟩⟩; (try first | exact ⟨rfl, _, World.drewN_drewN _ _ _⟩ | exact ⟨rfl, _, Eq.trans (World.drewN_drewN _ _ _) (congrArg (World.drewN _) (Nat.add_assoc _ _ _))⟩)) | (go_at_call 26; (with_reducible refine (jobshellref46_sameSnaps.calls k1 _ _ l0_5 _ _ l1_5 true _ ?side1 ?side2 ?side3 ?side4 A23.out).mono ?_); (case side1 => repeat (first | exact (Kd.C_below HR0_5.out (by repeat (first | (with_reducible first | exact HB.out | apply below_alloc | apply pw_below_drewN | apply below_drew1 | refine below_set ?_ GE350.out | refine below_set ?_ GE351.out) | exact HB.out))) | (with_reducible refine Kd.C_alloc ?_ _) | (with_reducible refine Kd.C_drewN ?_ _) | (with_reducible refine Kd.C_drew ?_))); (case side2 => exact HC0_5.out); (case side3 => repeat (first | exact (Kd.C_below HR1_5.out (by repeat (first | (with_reducible first | exact HB.out | apply below_alloc | apply pw_below_drewN | apply below_drew1 | refine below_set ?_ GE350.out | refine below_set ?_ GE351.out) | exact HB.out))) | (with_reducible refine Kd.C_alloc ?_ _) | (with_reducible refine Kd.C_drewN ?_ _) | (with_reducible refine Kd.C_drew ?_))); (case side4 => exact HC1_5.out); rintro e w' ⟨rfl, ⟨nd, rfl⟩⟩; (try first | exact ⟨rfl, _, World.drewN_drewN _ _ _⟩ | exact ⟨rfl, _, Eq.trans (World.drewN_drewN _ _ _) (congrArg (World.drewN _) (Nat.add_assoc _ _ _))⟩))); try go_wp2_with (first | (go_at_call 26; (with_reducible refine (jobshellref46_sameSnaps.calls k1 _ _ l0_4 _ _ l1_4 true _ ?side1 ?side2 ?side3 ?side4 A21.out).mono ?_); (case side1 => repeat (first | exact (Kd.C_below HR0_4.out HB.out) | (with_reducible refine Kd.C_alloc ?_ _) | (with_reducible refine Kd.C_drewN ?_ _) | (with_reducible refine Kd.C_drew ?_))); (case side2 => exact HC0_4.out); (case side3 => repeat (first | exact (Kd.C_below HR1_4.out HB.out) | (with_reducible refine Kd.C_alloc ?_ _) | (with_reducible refine Kd.C_drewN ?_ _) | (with_reducible refine Kd.C_drew ?_))); (case side4 => exact HC1_4.out); rintro e w' ⟨rfl, ⟨nd, rfl⟩⟩; (try first | exact ⟨rfl, _, World.drewN_drewN _ _ _⟩ | exact ⟨rfl, _, Eq.trans (World.drewN_drewN _ _ _) (congrArg (World.drewN _) (Nat.add_assoc _ _ _))⟩)) | (go_at_call 26; (with_reducible refine (jobshellref46_sameSnaps.calls k1 _ _ l0_5 _ _ l1_5 true _ ?side1 ?side2 ?side3 ?side4 A23.out).mono ?_); (case side1 => repeat (first | exact (Kd.C_below HR0_5.out (by repeat (first | (with_reducible first | exact HB.out | apply below_alloc | apply pw_below_drewN | apply below_drew1 | refine below_set ?_ GE350.out | refine below_set ?_ GE351.out) | exact HB.out))) | (with_reducible refine Kd.C_alloc ?_ _) | (with_reducible refine Kd.C_drewN ?_ _) | (with_reducible refine Kd.C_drew ?_))); (case side2 => exact HC0_5.out); (case side3 => repeat (first | exact (Kd.C_below HR1_5.out (by repeat (first | (with_reducible first | exact HB.out | apply below_alloc | apply pw_below_drewN | apply below_drew1 | refine below_set ?_ GE350.out | refine below_set ?_ GE351.out) | exact HB.out))) | (with_reducible refine Kd.C_alloc ?_ _) | (with_reducible refine Kd.C_drewN ?_ _) | (with_reducible refine Kd.C_drew ?_))); (case side4 => exact HC1_5.out); rintro e w' ⟨rfl, ⟨nd, rfl⟩⟩; (try first | exact ⟨rfl, _, World.drewN_drewN _ _ _⟩ | exact ⟨rfl, _, Eq.trans (World.drewN_drewN _ _ _) (congrArg (World.drewN _) (Nat.add_assoc _ _ _))⟩))))
                        go_ret
                        exact ⟨by first | rfl | (simp [errW_none, errW_some] <;> rfl) | (simp [*, errW_none, errW_some] <;> rfl), by repeat (first | (with_reducible first | exact HB.out | apply below_alloc | apply pw_below_drewN | apply below_drew1 | refine below_set ?_ GE350.out | refine below_set ?_ GE351.out) | exact HB.out)⟩
                      · rw [if_neg c27] at H
                        have c27b0 : (a0_8 == a1_8) = false := beq_eq_false_iff_ne.mpr c27
                        have c27b1 : (a0_8 != a1_8) = true := bne_iff_ne.mpr c27
                        obtain rfl := Option.some.inj H
                        have hnb31 := NB350_351.out
                        have hnc31 := NB351_350.out
                        have hcz32_0 : wr.cell? ⟨gb350, 0, none⟩ = some (.string a0_0) := (blk_cell BK350.out 0).trans rfl
                        have hcz32_1 : wr.cell? ⟨gb350, 1, none⟩ = some (.int .i64 a0_1) := (blk_cell BK350.out 1).trans rfl
                        have hcz32_2 : wr.cell? ⟨gb350, 2, none⟩ = some (.int .i64 a0_2) := (blk_cell BK350.out 2).trans rfl
                        have hcz32_3 : wr.cell? ⟨gb350, 3, none⟩ = some (.slice A0_3 l0_3.length c0_3) := (blk_cell BK350.out 3).trans rfl
                        have hcz32_4 : wr.cell? ⟨gb350, 4, none⟩ = some (.slice A0_4 l0_4.length c0_4) := (blk_cell BK350.out 4).trans rfl
                        have hcz32_5 : wr.cell? ⟨gb350, 5, none⟩ = some (.slice A0_5 l0_5.length c0_5) := (blk_cell BK350.out 5).trans rfl
                        have hcz32_6 : wr.cell? ⟨gb350, 6, none⟩ = some (.string a0_6) := (blk_cell BK350.out 6).trans rfl
                        have hcz32_7 : wr.cell? ⟨gb350, 7, none⟩ = some (.int .i64 a0_7) := (blk_cell BK350.out 7).trans rfl
                        have hcz32_8 : wr.cell? ⟨gb350, 8, none⟩ = some (.int .i64 a0_8) := (blk_cell BK350.out 8).trans rfl
                        have hcz32_9 : wr.cell? ⟨gb350, 9, none⟩ = some (.string a0_9) := (blk_cell BK350.out 9).trans rfl
                        have hfz32_0 := blk_frozen BK350.out 0
                        have hfz32_1 := blk_frozen BK350.out 1
                        have hfz32_2 := blk_frozen BK350.out 2
                        have hfz32_3 := blk_frozen BK350.out 3
                        have hfz32_4 := blk_frozen BK350.out 4
                        have hfz32_5 := blk_frozen BK350.out 5
                        have hfz32_6 := blk_frozen BK350.out 6
                        have hfz32_7 := blk_frozen BK350.out 7
                        have hfz32_8 := blk_frozen BK350.out 8
                        have hfz32_9 := blk_frozen BK350.out 9
                        have hcz33_0 : wr.cell? ⟨gb351, 0, none⟩ = some (.string a1_0) := (blk_cell BK351.out 0).trans rfl
                        have hcz33_1 : wr.cell? ⟨gb351, 1, none⟩ = some (.int .i64 a1_1) := (blk_cell BK351.out 1).trans rfl
                        have hcz33_2 : wr.cell? ⟨gb351, 2, none⟩ = some (.int .i64 a1_2) := (blk_cell BK351.out 2).trans rfl
                        have hcz33_3 : wr.cell? ⟨gb351, 3, none⟩ = some (.slice A1_3 l1_3.length c1_3) := (blk_cell BK351.out 3).trans rfl
                        have hcz33_4 : wr.cell? ⟨gb351, 4, none⟩ = some (.slice A1_4 l1_4.length c1_4) := (blk_cell BK351.out 4).trans rfl
                        have hcz33_5 : wr.cell? ⟨gb351, 5, none⟩ = some (.slice A1_5 l1_5.length c1_5) := (blk_cell BK351.out 5).trans rfl
                        have hcz33_6 : wr.cell? ⟨gb351, 6, none⟩ = some (.string a1_6) := (blk_cell BK351.out 6).trans rfl
                        have hcz33_7 : wr.cell? ⟨gb351, 7, none⟩ = some (.int .i64 a1_7) := (blk_cell BK351.out 7).trans rfl
                        have hcz33_8 : wr.cell? ⟨gb351, 8, none⟩ = some (.int .i64 a1_8) := (blk_cell BK351.out 8).trans rfl
                        have hcz33_9 : wr.cell? ⟨gb351, 9, none⟩ = some (.string a1_9) := (blk_cell BK351.out 9).trans rfl
                        have hfz33_0 := blk_frozen BK351.out 0
                        have hfz33_1 := blk_frozen BK351.out 1
                        have hfz33_2 := blk_frozen BK351.out 2
                        have hfz33_3 := blk_frozen BK351.out 3
                        have hfz33_4 := blk_frozen BK351.out 4
                        have hfz33_5 := blk_frozen BK351.out 5
                        have hfz33_6 := blk_frozen BK351.out 6
                        have hfz33_7 := blk_frozen BK351.out 7
                        have hfz33_8 := blk_frozen BK351.out 8
                        have hfz33_9 := blk_frozen BK351.out 9
                        go_wp2_with (first | (go_at_call 26; (with_reducible refine (jobshellref46_sameSnaps.calls k1 _ _ l0_4 _ _ l1_4 true _ ?side1 ?side2 ?side3 ?side4 A21.out).mono ?_); (case side1 => repeat (first | exact (Kd.C_below HR0_4.out HB.out) | (with_reducible refine Kd.C_alloc ?_ _) | (with_reducible refine Kd.C_drewN ?_ _) | (with_reducible refine Kd.C_drew ?_))); (case side2 => exact HC0_4.out); (case side3 => repeat (first | exact (Kd.C_below HR1_4.out HB.out) | (with_reducible refine Kd.C_alloc ?_ _) | (with_reducible refine Kd.C_drewN ?_ _) | (with_reducible refine Kd.C_drew ?_))); (case side4 => exact HC1_4.out); rintro e w' ⟨rfl, ⟨nd, rfl⟩⟩; (try first | exact ⟨rfl, _, World.drewN_drewN _ _ _⟩ | exact ⟨rfl, _, Eq.trans (World.drewN_drewN _ _ _) (congrArg (World.drewN _) (Nat.add_assoc _ _ _))⟩)) | (go_at_call 26; (with_reducible refine (jobshellref46_sameSnaps.calls k1 _ _ l0_5 _ _ l1_5 true _ ?side1 ?side2 ?side3 ?side4 A23.out).mono ?_); (case side1 => repeat (first | exact (Kd.C_below HR0_5.out (by repeat (first | (with_reducible first | exact HB.out | apply below_alloc | apply pw_below_drewN | apply below_drew1 | refine below_set ?_ GE350.out | refine below_set ?_ GE351.out) | exact HB.out))) | (with_reducible refine Kd.C_alloc ?_ _) | (with_reducible refine Kd.C_drewN ?_ _) | (with_reducible refine Kd.C_drew ?_))); (case side2 => exact HC0_5.out); (case side3 => repeat (first | exact (Kd.C_below HR1_5.out (by repeat (first | (with_reducible first | exact HB.out | apply below_alloc | apply pw_below_drewN | apply below_drew1 | refine below_set ?_ GE350.out | refine below_set ?_ GE351.out) | exact HB.out))) | (with_reducible refine Kd.C_alloc ?_ _) | (with_reducible refine Kd.C_drewN ?_ _) | (with_reducible refine Kd.C_drew ?_))); (case side4 => exact HC1_5.out); rintro e w' ⟨rfl, ⟨nd, rfl⟩⟩; (try first | exact ⟨rfl, _, World.drewN_drewN _ _ _⟩ | exact ⟨rfl, _, Eq.trans (World.drewN_drewN _ _ _) (congrArg (World.drewN _) (Nat.add_assoc _ _ _))⟩)))
                        repeat (go_quiet (first | (go_at_call 26; (with_reducible refine (jobshellref46_sameSnaps.calls k1 _ _ l0_4 _ _ l1_4 true _ ?side1 ?side2 ?side3 ?side4 A21.out).mono ?_); (case side1 => repeat (first | exact (Kd.C_below HR0_4.out HB.out) | (with_reducible refine Kd.C_alloc ?_ _) | (with_reducible refine Kd.C_drewN ?_ _) | (with_reducible refine Kd.C_drew ?_))); (case side2 => exact HC0_4.out); (case side3 => repeat (first | exact (Kd.C_below HR1_4.out HB.out) | (with_reducible refine Kd.C_alloc ?_ _) | (with_reducible refine Kd.C_drewN ?_ _) | (with_reducible refine Kd.C_drew ?_))); (case side4 => exact HC1_4.out); rintro e w' ⟨rfl, ⟨nd, rfl⟩⟩; (try first | exact ⟨rfl, _, World.drewN_drewN _ _ _⟩ | exact ⟨rfl, _, Eq.trans (World.drewN_drewN _ _ _) (congrArg (World.drewN _) (Nat.add_assoc _ _ _))⟩)) | (go_at_call 26; (with_reducible refine (jobshellref46_sameSnaps.calls k1 _ _ l0_5 _ _ l1_5 true _ ?side1 ?side2 ?side3 ?side4 A23.out).mono ?_); (case side1 => repeat (first | exact (Kd.C_below HR0_5.out (by repeat (first | (with_reducible first | exact HB.out | apply below_alloc | apply pw_below_drewN | apply below_drew1 | refine below_set ?_ GE350.out | refine below_set ?_ GE351.out) | exact HB.out))) | (with_reducible refine Kd.C_alloc ?_ _) | (with_reducible refine Kd.C_drewN ?_ _) | (with_reducible refine Kd.C_drew ?_))); (case side2 => exact HC0_5.out); (case side3 => repeat (first | exact (Kd.C_below HR1_5.out (by repeat (first | (with_reducible first | exact HB.out | apply below_alloc | apply pw_below_drewN | apply below_drew1 | refine below_set ?_ GE350.out | refine below_set ?_ GE351.out) | exact HB.out))) | (with_reducible refine Kd.C_alloc ?_ _) | (with_reducible refine Kd.C_drewN ?_ _) | (with_reducible refine Kd.C_drew ?_))); (case side4 => exact HC1_5.out); rintro e w' ⟨rfl, ⟨nd, rfl⟩⟩; (try first | exact ⟨rfl, _, World.drewN_drewN _ _ _⟩ | exact ⟨rfl, _, Eq.trans (World.drewN_drewN _ _ _) (congrArg (World.drewN _) (Nat.add_assoc _ _ _))⟩))); try go_wp2_with (first | (go_at_call 26; (with_reducible refine (jobshellref46_sameSnaps.calls k1 _ _ l0_4 _ _ l1_4 true _ ?side1 ?side2 ?side3 ?side4 A21.out).mono ?_); (case side1 => repeat (first | exact (Kd.C_below HR0_4.out HB.out) | (with_reducible refine Kd.C_alloc ?_ _) | (with_reducible refine Kd.C_drewN ?_ _) | (with_reducible refine Kd.C_drew ?_))); (case side2 => exact HC0_4.out); (case side3 => repeat (first | exact (Kd.C_below HR1_4.out HB.out) | (with_reducible refine Kd.C_alloc ?_ _) | (with_reducible refine Kd.C_drewN ?_ _) | (with_reducible refine Kd.C_drew ?_))); (case side4 => exact HC1_4.out); rintro e w' ⟨rfl, ⟨nd, rfl⟩⟩; (try first | exact ⟨rfl, _, World.drewN_drewN _ _ _⟩ | exact ⟨rfl, _, Eq.trans (World.drewN_drewN _ _ _) (congrArg (World.drewN _) (Nat.add_assoc _ _ _))⟩)) | (go_at_call 26; (with_reducible refine (jobshellref46_sameSnaps.calls k1 _ _ l0_5 _ _ l1_5 true _ ?side1 ?side2 ?side3 ?side4 A23.out).mono ?_); (case side1 => repeat (first | exact (Kd.C_below HR0_5.out (by repeat (first | (with_reducible first | exact HB.out | apply below_alloc | apply pw_below_drewN | apply below_drew1 | refine below_set ?_ GE350.out | refine below_set ?_ GE351.out) | exact HB.out))) | (with_reducible refine Kd.C_alloc ?_ _) | (with_reducible refine Kd.C_drewN ?_ _) | (with_reducible refine Kd.C_drew ?_))); (case side2 => exact HC0_5.out); (case side3 => repeat (first | exact (Kd.C_below HR1_5.out (by repeat (first | (with_reducible first | exact HB.out | apply below_alloc | apply pw_below_drewN | apply below_drew1 | refine below_set ?_ GE350.out | refine below_set ?_ GE351.out) | exact HB.out))) | (with_reducible refine Kd.C_alloc ?_ _) | (with_reducible refine Kd.C_drewN ?_ _) | (with_reducible refine Kd.C_drew ?_))); (case side4 => exact HC1_5.out); rintro e w' ⟨rfl, ⟨nd, rfl⟩⟩; (try first | exact ⟨rfl, _, World.drewN_drewN _ _ _⟩ | exact ⟨rfl, _, Eq.trans (World.drewN_drewN _ _ _) (congrArg (World.drewN _) (Nat.add_assoc _ _ _))⟩))))
                        go_ret
                        exact ⟨by first | rfl | (simp [errW_none, errW_some] <;> rfl) | (simp [*, errW_none, errW_some] <;> rfl), by repeat (first | (with_reducible first | exact HB.out | apply below_alloc | apply pw_below_drewN | apply below_drew1 | refine below_set ?_ GE350.out | refine below_set ?_ GE351.out) | exact HB.out)⟩
                    · rw [if_neg c26] at H
                      have c26b0 : (a0_7 == a1_7) = false := beq_eq_false_iff_ne.mpr c26
                      have c26b1 : (a0_7 != a1_7) = true := bne_iff_ne.mpr c26
                      obtain rfl := Option.some.inj H
                      have hnb34 := NB350_351.out
                      have hnc34 := NB351_350.out
                      have hcz35_0 : wr.cell? ⟨gb350, 0, none⟩ = some (.string a0_0) := (blk_cell BK350.out 0).trans rfl
                      have hcz35_1 : wr.cell? ⟨gb350, 1, none⟩ = some (.int .i64 a0_1) := (blk_cell BK350.out 1).trans rfl
                      have hcz35_2 : wr.cell? ⟨gb350, 2, none⟩ = some (.int .i64 a0_2) := (blk_cell BK350.out 2).trans rfl
                      have hcz35_3 : wr.cell? ⟨gb350, 3, none⟩ = some (.slice A0_3 l0_3.length c0_3) := (blk_cell BK350.out 3).trans rfl
                      have hcz35_4 : wr.cell? ⟨gb350, 4, none⟩ = some (.slice A0_4 l0_4.length c0_4) := (blk_cell BK350.out 4).trans rfl
                      have hcz35_5 : wr.cell? ⟨gb350, 5, none⟩ = some (.slice A0_5 l0_5.length c0_5) := (blk_cell BK350.out 5).trans rfl
                      have hcz35_6 : wr.cell? ⟨gb350, 6, none⟩ = some (.string a0_6) := (blk_cell BK350.out 6).trans rfl
                      have hcz35_7 : wr.cell? ⟨gb350, 7, none⟩ = some (.int .i64 a0_7) := (blk_cell BK350.out 7).trans rfl
                      have hcz35_8 : wr.cell? ⟨gb350, 8, none⟩ = some (.int .i64 a0_8) := (blk_cell BK350.out 8).trans rfl
                      have hcz35_9 : wr.cell? ⟨gb350, 9, none⟩ = some (.string a0_9) := (blk_cell BK350.out 9).trans rfl
                      have hfz35_0 := blk_frozen BK350.out 0
                      have hfz35_1 := blk_frozen BK350.out 1
                      have hfz35_2 := blk_frozen BK350.out 2
                      have hfz35_3 := blk_frozen BK350.out 3
                      have hfz35_4 := blk_frozen BK350.out 4
                      have hfz35_5 := blk_frozen BK350.out 5
                      have hfz35_6 := blk_frozen BK350.out 6
                      have hfz35_7 := blk_frozen BK350.out 7
                      have hfz35_8 := blk_frozen BK350.out 8
                      have hfz35_9 := blk_frozen BK350.out 9
                      have hcz36_0 : wr.cell? ⟨gb351, 0, none⟩ = some (.string a1_0) := (blk_cell BK351.out 0).trans rfl
                      have hcz36_1 : wr.cell? ⟨gb351, 1, none⟩ = some (.int .i64 a1_1) := (blk_cell BK351.out 1).trans rfl
                      have hcz36_2 : wr.cell? ⟨gb351, 2, none⟩ = some (.int .i64 a1_2) := (blk_cell BK351.out 2).trans rfl
                      have hcz36_3 : wr.cell? ⟨gb351, 3, none⟩ = some (.slice A1_3 l1_3.length c1_3) := (blk_cell BK351.out 3).trans rfl
                      have hcz36_4 : wr.cell? ⟨gb351, 4, none⟩ = some (.slice A1_4 l1_4.length c1_4) := (blk_cell BK351.out 4).trans rfl
                      have hcz36_5 : wr.cell? ⟨gb351, 5, none⟩ = some (.slice A1_5 l1_5.length c1_5) := (blk_cell BK351.out 5).trans rfl
                      have hcz36_6 : wr.cell? ⟨gb351, 6, none⟩ = some (.string a1_6) := (blk_cell BK351.out 6).trans rfl
                      have hcz36_7 : wr.cell? ⟨gb351, 7, none⟩ = some (.int .i64 a1_7) := (blk_cell BK351.out 7).trans rfl
                      have hcz36_8 : wr.cell? ⟨gb351, 8, none⟩ = some (.int .i64 a1_8) := (blk_cell BK351.out 8).trans rfl
                      have hcz36_9 : wr.cell? ⟨gb351, 9, none⟩ = some (.string a1_9) := (blk_cell BK351.out 9).trans rfl
                      have hfz36_0 := blk_frozen BK351.out 0
                      have hfz36_1 := blk_frozen BK351.out 1
                      have hfz36_2 := blk_frozen BK351.out 2
                      have hfz36_3 := blk_frozen BK351.out 3
                      have hfz36_4 := blk_frozen BK351.out 4
                      have hfz36_5 := blk_frozen BK351.out 5
                      have hfz36_6 := blk_frozen BK351.out 6
                      have hfz36_7 := blk_frozen BK351.out 7
                      have hfz36_8 := blk_frozen BK351.out 8
                      have hfz36_9 := blk_frozen BK351.out 9
                      go_wp2_with (first | (go_at_call 26; (with_reducible refine (jobshellref46_sameSnaps.calls k1 _ _ l0_4 _ _ l1_4 true _ ?side1 ?side2 ?side3 ?side4 A21.out).mono ?_); (case side1 => repeat (first | exact (Kd.C_below HR0_4.out HB.out) | (with_reducible refine Kd.C_alloc ?_ _) | (with_reducible refine Kd.C_drewN ?_ _) | (with_reducible refine Kd.C_drew ?_))); (case side2 => exact HC0_4.out); (case side3 => repeat (first | exact (Kd.C_below HR1_4.out HB.out) | (with_reducible refine Kd.C_alloc ?_ _) | (with_reducible refine Kd.C_drewN ?_ _) | (with_reducible refine Kd.C_drew ?_))); (case side4 => exact HC1_4.out); rintro e w' ⟨rfl, ⟨nd, rfl⟩⟩; (try first | exact ⟨rfl, _, World.drewN_drewN _ _ _⟩ | exact ⟨rfl, _, Eq.trans (World.drewN_drewN _ _ _) (congrArg (World.drewN _) (Nat.add_assoc _ _ _))⟩)) | (go_at_call 26; (with_reducible refine (jobshellref46_sameSnaps.calls k1 _ _ l0_5 _ _ l1_5 true _ ?side1 ?side2 ?side3 ?side4 A23.out).mono ?_); (case side1 => repeat (first | exact (Kd.C_below HR0_5.out (by repeat (first | (with_reducible first | exact HB.out | apply below_alloc | apply pw_below_drewN | apply below_drew1 | refine below_set ?_ GE350.out | refine below_set ?_ GE351.out) | exact HB.out))) | (with_reducible refine Kd.C_alloc ?_ _) | (with_reducible refine Kd.C_drewN ?_ _) | (with_reducible refine Kd.C_drew ?_))); (case side2 => exact HC0_5.out); (case side3 => repeat (first | exact (Kd.C_below HR1_5.out (by repeat (first | (with_reducible first | exact HB.out | apply below_alloc | apply pw_below_drewN | apply below_drew1 | refine below_set ?_ GE350.out | refine below_set ?_ GE351.out) | exact HB.out))) | (with_reducible refine Kd.C_alloc ?_ _) | (with_reducible refine Kd.C_drewN ?_ _) | (with_reducible refine Kd.C_drew ?_))); (case side4 => exact HC1_5.out); rintro e w' ⟨rfl, ⟨nd, rfl⟩⟩; (try first | exact ⟨rfl, _, World.drewN_drewN _ _ _⟩ | exact ⟨rfl, _, Eq.trans (World.drewN_drewN _ _ _) (congrArg (World.drewN _) (Nat.add_assoc _ _ _))⟩)))
                      repeat (go_quiet (first | (go_at_call 26; (with_reducible refine (jobshellref46_sameSnaps.calls k1 _ _ l0_4 _ _ l1_4 true _ ?side1 ?side2 ?side3 ?side4 A21.out).mono ?_); (case side1 => repeat (first | exact (Kd.C_below HR0_4.out HB.out) | (with_reducible refine Kd.C_alloc ?_ _) | (with_reducible refine Kd.C_drewN ?_ _) | (with_reducible refine Kd.C_drew ?_))); (case side2 => exact HC0_4.out); (case side3 => repeat (first | exact (Kd.C_below HR1_4.out HB.out) | (with_reducible refine Kd.C_alloc ?_ _) | (with_reducible refine Kd.C_drewN ?_ _) | (with_reducible refine Kd.C_drew ?_))); (case side4 => exact HC1_4.out); rintro e w' ⟨rfl, ⟨nd, rfl⟩⟩; (try first | exact ⟨rfl, _, World.drewN_drewN _ _ _⟩ | exact ⟨rfl, _, Eq.trans (World.drewN_drewN _ _ _) (congrArg (World.drewN _) (Nat.add_assoc _ _ _))⟩)) | (go_at_call 26; (with_reducible refine (jobshellref46_sameSnaps.calls k1 _ _ l0_5 _ _ l1_5 true _ ?side1 ?side2 ?side3 ?side4 A23.out).mono ?_); (case side1 => repeat (first | exact (Kd.C_below HR0_5.out (by repeat (first | (with_reducible first | exact HB.out | apply below_alloc | apply pw_below_drewN | apply below_drew1 | refine below_set ?_ GE350.out | refine below_set ?_ GE351.out) | exact HB.out))) | (with_reducible refine Kd.C_alloc ?_ _) | (with_reducible refine Kd.C_drewN ?_ _) | (with_reducible refine Kd.C_drew ?_))); (case side2 => exact HC0_5.out); (case side3 => repeat (first | exact (Kd.C_below HR1_5.out (by repeat (first | (with_reducible first | exact HB.out | apply below_alloc | apply pw_below_drewN | apply below_drew1 | refine below_set ?_ GE350.out | refine below_set ?_ GE351.out) | exact HB.out))) | (with_reducible refine Kd.C_alloc ?_ _) | (with_reducible refine Kd.C_drewN ?_ _) | (with_reducible refine Kd.C_drew ?_))); (case side4 => exact HC1_5.out); rintro e w' ⟨rfl, ⟨nd, rfl⟩⟩; (try first | exact ⟨rfl, _, World.drewN_drewN _ _ _⟩ | exact ⟨rfl, _, Eq.trans (World.drewN_drewN _ _ _) (congrArg (World.drewN _) (Nat.add_assoc _ _ _))⟩))); try go_wp2_with (first | (go_at_call 26; (with_reducible refine (jobshellref46_sameSnaps.calls k1 _ _ l0_4 _ _ l1_4 true _ ?side1 ?side2 ?side3 ?side4 A21.out).mono ?_); (case side1 => repeat (first | exact (Kd.C_below HR0_4.out HB.out) | (with_reducible refine Kd.C_alloc ?_ _) | (with_reducible refine Kd.C_drewN ?_ _) | (with_reducible refine Kd.C_drew ?_))); (case side2 => exact HC0_4.out); (case side3 => repeat (first | exact (Kd.C_below HR1_4.out HB.out) | (with_reducible refine Kd.C_alloc ?_ _) | (with_reducible refine Kd.C_drewN ?_ _) | (with_reducible refine Kd.C_drew ?_))); (case side4 => exact HC1_4.out); rintro e w' ⟨rfl, ⟨nd, rfl⟩⟩; (try first | exact ⟨rfl, _, World.drewN_drewN _ _ _⟩ | exact ⟨rfl, _, Eq.trans (World.drewN_drewN _ _ _) (congrArg (World.drewN _) (Nat.add_assoc _ _ _))⟩)) | (go_at_call 26; (with_reducible refine (jobshellref46_sameSnaps.calls k1 _ _ l0_5 _ _ l1_5 true _ ?side1 ?side2 ?side3 ?side4 A23.out).mono ?_); (case side1 => repeat (first | exact (Kd.C_below HR0_5.out (by repeat (first | (with_reducible first | exact HB.out | apply below_alloc | apply pw_below_drewN | apply below_drew1 | refine below_set ?_ GE350.out | refine below_set ?_ GE351.out) | exact HB.out))) | (with_reducible refine Kd.C_alloc ?_ _) | (with_reducible refine Kd.C_drewN ?_ _) | (with_reducible refine Kd.C_drew ?_))); (case side2 => exact HC0_5.out); (case side3 => repeat (first | exact (Kd.C_below HR1_5.out (by repeat (first | (with_reducible first | exact HB.out | apply below_alloc | apply pw_below_drewN | apply below_drew1 | refine below_set ?_ GE350.out | refine below_set ?_ GE351.out) | exact HB.out))) | (with_reducible refine Kd.C_alloc ?_ _) | (with_reducible refine Kd.C_drewN ?_ _) | (with_reducible refine Kd.C_drew ?_))); (case side4 => exact HC1_5.out); rintro e w' ⟨rfl, ⟨nd, rfl⟩⟩; (try first | exact ⟨rfl, _, World.drewN_drewN _ _ _⟩ | exact ⟨rfl, _, Eq.trans (World.drewN_drewN _ _ _) (congrArg (World.drewN _) (Nat.add_assoc _ _ _))⟩))))
                      go_ret
                      exact ⟨by first | rfl | (simp [errW_none, errW_some] <;> rfl) | (simp [*, errW_none, errW_some] <;> rfl), by repeat (first | (with_reducible first | exact HB.out | apply below_alloc | apply pw_below_drewN | apply below_drew1 | refine below_set ?_ GE350.out | refine below_set ?_ GE351.out) | exact HB.out)⟩
                  · rw [if_neg c25] at H
                    have c25b0 : (a0_6.toList == a1_6.toList) = false := beq_eq_false_iff_ne.mpr c25
                    have c25b1 : (a0_6.toList != a1_6.toList) = true := bne_iff_ne.mpr c25
                    obtain rfl := Option.some.inj H
                    have hnb37 := NB350_351.out
                    have hnc37 := NB351_350.out
                    have hcz38_0 : wr.cell? ⟨gb350, 0, none⟩ = some (.string a0_0) := (blk_cell BK350.out 0).trans rfl
                    have hcz38_1 : wr.cell? ⟨gb350, 1, none⟩ = some (.int .i64 a0_1) := (blk_cell BK350.out 1).trans rfl
                    have hcz38_2 : wr.cell? ⟨gb350, 2, none⟩ = some (.int .i64 a0_2) := (blk_cell BK350.out 2).trans rfl
                    have hcz38_3 : wr.cell? ⟨gb350, 3, none⟩ = some (.slice A0_3 l0_3.length c0_3) := (blk_cell BK350.out 3).trans rfl
                    have hcz38_4 : wr.cell? ⟨gb350, 4, none⟩ = some (.slice A0_4 l0_4.length c0_4) := (blk_cell BK350.out 4).trans rfl
                    have hcz38_5 : wr.cell? ⟨gb350, 5, none⟩ = some (.slice A0_5 l0_5.length c0_5) := (blk_cell BK350.out 5).trans rfl
                    have hcz38_6 : wr.cell? ⟨gb350, 6, none⟩ = some (.string a0_6) := (blk_cell BK350.out 6).trans rfl
                    have hcz38_7 : wr.cell? ⟨gb350, 7, none⟩ = some (.int .i64 a0_7) := (blk_cell BK350.out 7).trans rfl
                    have hcz38_8 : wr.cell? ⟨gb350, 8, none⟩ = some (.int .i64 a0_8) := (blk_cell BK350.out 8).trans rfl
                    have hcz38_9 : wr.cell? ⟨gb350, 9, none⟩ = some (.string a0_9) := (blk_cell BK350.out 9).trans rfl
                    have hfz38_0 := blk_frozen BK350.out 0
                    have hfz38_1 := blk_frozen BK350.out 1
                    have hfz38_2 := blk_frozen BK350.out 2
                    have hfz38_3 := blk_frozen BK350.out 3
                    have hfz38_4 := blk_frozen BK350.out 4
                    have hfz38_5 := blk_frozen BK350.out 5
                    have hfz38_6 := blk_frozen BK350.out 6
                    have hfz38_7 := blk_frozen BK350.out 7
                    have hfz38_8 := blk_frozen BK350.out 8
                    have hfz38_9 := blk_frozen BK350.out 9
                    have hcz39_0 : wr.cell? ⟨gb351, 0, none⟩ = some (.string a1_0) := (blk_cell BK351.out 0).trans rfl
                    have hcz39_1 : wr.cell? ⟨gb351, 1, none⟩ = some (.int .i64 a1_1) := (blk_cell BK351.out 1).trans rfl
                    have hcz39_2 : wr.cell? ⟨gb351, 2, none⟩ = some (.int .i64 a1_2) := (blk_cell BK351.out 2).trans rfl
                    have hcz39_3 : wr.cell? ⟨gb351, 3, none⟩ = some (.slice A1_3 l1_3.length c1_3) := (blk_cell BK351.out 3).trans rfl
                    have hcz39_4 : wr.cell? ⟨gb351, 4, none⟩ = some (.slice A1_4 l1_4.length c1_4) := (blk_cell BK351.out 4).trans rfl
                    have hcz39_5 : wr.cell? ⟨gb351, 5, none⟩ = some (.slice A1_5 l1_5.length c1_5) := (blk_cell BK351.out 5).trans rfl
                    have hcz39_6 : wr.cell? ⟨gb351, 6, none⟩ = some (.string a1_6) := (blk_cell BK351.out 6).trans rfl
                    have hcz39_7 : wr.cell? ⟨gb351, 7, none⟩ = some (.int .i64 a1_7) := (blk_cell BK351.out 7).trans rfl
                    have hcz39_8 : wr.cell? ⟨gb351, 8, none⟩ = some (.int .i64 a1_8) := (blk_cell BK351.out 8).trans rfl
                    have hcz39_9 : wr.cell? ⟨gb351, 9, none⟩ = some (.string a1_9) := (blk_cell BK351.out 9).trans rfl
                    have hfz39_0 := blk_frozen BK351.out 0
                    have hfz39_1 := blk_frozen BK351.out 1
                    have hfz39_2 := blk_frozen BK351.out 2
                    have hfz39_3 := blk_frozen BK351.out 3
                    have hfz39_4 := blk_frozen BK351.out 4
                    have hfz39_5 := blk_frozen BK351.out 5
                    have hfz39_6 := blk_frozen BK351.out 6
                    have hfz39_7 := blk_frozen BK351.out 7
                    have hfz39_8 := blk_frozen BK351.out 8
                    have hfz39_9 := blk_frozen BK351.out 9
                    go_wp2_with (first | (go_at_call 26; (with_reducible refine (jobshellref46_sameSnaps.calls k1 _ _ l0_4 _ _ l1_4 true _ ?side1 ?side2 ?side3 ?side4 A21.out).mono ?_); (case side1 => repeat (first | exact (Kd.C_below HR0_4.out HB.out) | (with_reducible refine Kd.C_alloc ?_ _) | (with_reducible refine Kd.C_drewN ?_ _) | (with_reducible refine Kd.C_drew ?_))); (case side2 => exact HC0_4.out); (case side3 => repeat (first | exact (Kd.C_below HR1_4.out HB.out) | (with_reducible refine Kd.C_alloc ?_ _) | (with_reducible refine Kd.C_drewN ?_ _) | (with_reducible refine Kd.C_drew ?_))); (case side4 => exact HC1_4.out); rintro e w' ⟨rfl, ⟨nd, rfl⟩⟩; (try first | exact ⟨rfl, _, World.drewN_drewN _ _ _⟩ | exact ⟨rfl, _, Eq.trans (World.drewN_drewN _ _ _) (congrArg (World.drewN _) (Nat.add_assoc _ _ _))⟩)) | (go_at_call 26; (with_reducible refine (jobshellref46_sameSnaps.calls k1 _ _ l0_5 _ _ l1_5 true _ ?side1 ?side2 ?side3 ?side4 A23.out).mono ?_); (case side1 => repeat (first | exact (Kd.C_below HR0_5.out (by repeat (first | (with_reducible first | exact HB.out | apply below_alloc | apply pw_below_drewN | apply below_drew1 | refine below_set ?_ GE350.out | refine below_set ?_ GE351.out) | exact HB.out))) | (with_reducible refine Kd.C_alloc ?_ _) | (with_reducible refine Kd.C_drewN ?_ _) | (with_reducible refine Kd.C_drew ?_))); (case side2 => exact HC0_5.out); (case side3 => repeat (first | exact (Kd.C_below HR1_5.out (by repeat (first | (with_reducible first | exact HB.out | apply below_alloc | apply pw_below_drewN | apply below_drew1 | refine below_set ?_ GE350.out | refine below_set ?_ GE351.out) | exact HB.out))) | (with_reducible refine Kd.C_alloc ?_ _) | (with_reducible refine Kd.C_drewN ?_ _) | (with_reducible refine Kd.C_drew ?_))); (case side4 => exact HC1_5.out); rintro e w' ⟨rfl, ⟨nd, rfl⟩⟩; (try first | exact ⟨rfl, _, World.drewN_drewN _ _ _⟩ | exact ⟨rfl, _, Eq.trans (World.drewN_drewN _ _ _) (congrArg (World.drewN _) (Nat.add_assoc _ _ _))⟩)))
                    repeat (go_quiet (first | (go_at_call 26; (with_reducible refine (jobshellref46_sameSnaps.calls k1 _ _ l0_4 _ _ l1_4 true _ ?side1 ?side2 ?side3 ?side4 A21.out).mono ?_); (case side1 => repeat (first | exact (Kd.C_below HR0_4.out HB.out) | (with_reducible refine Kd.C_alloc ?_ _) | (with_reducible refine Kd.C_drewN ?_ _) | (with_reducible refine Kd.C_drew ?_))); (case side2 => exact HC0_4.out); (case side3 => repeat (first | exact (Kd.C_below HR1_4.out HB.out) | (with_reducible refine Kd.C_alloc ?_ _) | (with_reducible refine Kd.C_drewN ?_ _) | (with_reducible refine Kd.C_drew ?_))); (case side4 => exact HC1_4.out); rintro e w' ⟨rfl, ⟨nd, rfl⟩⟩; (try first | exact ⟨rfl, _, World.drewN_drewN _ _ _⟩ | exact ⟨rfl, _, Eq.trans (World.drewN_drewN _ _ _) (congrArg (World.drewN _) (Nat.add_assoc _ _ _))⟩)) | (go_at_call 26; (with_reducible refine (jobshellref46_sameSnaps.calls k1 _ _ l0_5 _ _ l1_5 true _ ?side1 ?side2 ?side3 ?side4 A23.out).mono ?_); (case side1 => repeat (first | exact (Kd.C_below HR0_5.out (by repeat (first | (with_reducible first | exact HB.out | apply below_alloc | apply pw_below_drewN | apply below_drew1 | refine below_set ?_ GE350.out | refine below_set ?_ GE351.out) | exact HB.out))) | (with_reducible refine Kd.C_alloc ?_ _) | (with_reducible refine Kd.C_drewN ?_ _) | (with_reducible refine Kd.C_drew ?_))); (case side2 => exact HC0_5.out); (case side3 => repeat (first | exact (Kd.C_below HR1_5.out (by repeat (first | (with_reducible first | exact HB.out | apply below_alloc | apply pw_below_drewN | apply below_drew1 | refine below_set ?_ GE350.out | refine below_set ?_ GE351.out) | exact HB.out))) | (with_reducible refine Kd.C_alloc ?_ _) | (with_reducible refine Kd.C_drewN ?_ _) | (with_reducible refine Kd.C_drew ?_))); (case side4 => exact HC1_5.out); rintro e w' ⟨rfl, ⟨nd, rfl⟩⟩; (try first | exact ⟨rfl, _, World.drewN_drewN _ _ _⟩ | exact ⟨rfl, _, Eq.trans (World.drewN_drewN _ _ _) (congrArg (World.drewN _) (Nat.add_assoc _ _ _))⟩))); try go_wp2_with (first | (go_at_call 26; (with_reducible refine (jobshellref46_sameSnaps.calls k1 _ _ l0_4 _ _ l1_4 true _ ?side1 ?side2 ?side3 ?side4 A21.out).mono ?_); (case side1 => repeat (first | exact (Kd.C_below HR0_4.out HB.out) | (with_reducible refine Kd.C_alloc ?_ _) | (with_reducible refine Kd.C_drewN ?_ _) | (with_reducible refine Kd.C_drew ?_))); (case side2 => exact HC0_4.out); (case side3 => repeat (first | exact (Kd.C_below HR1_4.out HB.out) | (with_reducible refine Kd.C_alloc ?_ _) | (with_reducible refine Kd.C_drewN ?_ _) | (with_reducible refine Kd.C_drew ?_))); (case side4 => exact HC1_4.out); rintro e w' ⟨rfl, ⟨nd, rfl⟩⟩; (try first | exact ⟨rfl, _, World.drewN_drewN _ _ _⟩ | exact ⟨rfl, _, Eq.trans (World.drewN_drewN _ _ _) (congrArg (World.drewN _) (Nat.add_assoc _ _ _))⟩)) | (go_at_call 26; (with_reducible refine (jobshellref46_sameSnaps.calls k1 _ _ l0_5 _ _ l1_5 true _ ?side1 ?side2 ?side3 ?side4 A23.out).mono ?_); (case side1 => repeat (first | exact (Kd.C_below HR0_5.out (by repeat (first | (with_reducible first | exact HB.out | apply below_alloc | apply pw_below_drewN | apply below_drew1 | refine below_set ?_ GE350.out | refine below_set ?_ GE351.out) | exact HB.out))) | (with_reducible refine Kd.C_alloc ?_ _) | (with_reducible refine Kd.C_drewN ?_ _) | (with_reducible refine Kd.C_drew ?_))); (case side2 => exact HC0_5.out); (case side3 => repeat (first | exact (Kd.C_below HR1_5.out (by repeat (first | (with_reducible first | exact HB.out | apply below_alloc | apply pw_below_drewN | apply below_drew1 | refine below_set ?_ GE350.out | refine below_set ?_ GE351.out) | exact HB.out))) | (with_reducible refine Kd.C_alloc ?_ _) | (with_reducible refine Kd.C_drewN ?_ _) | (with_reducible refine Kd.C_drew ?_))); (case side4 => exact HC1_5.out); rintro e w' ⟨rfl, ⟨nd, rfl⟩⟩; (try first | exact ⟨rfl, _, World.drewN_drewN _ _ _⟩ | exact ⟨rfl, _, Eq.trans (World.drewN_drewN _ _ _) (congrArg (World.drewN _) (Nat.add_assoc _ _ _))⟩))))
                    go_ret
                    exact ⟨by first | rfl | (simp [errW_none, errW_some] <;> rfl) | (simp [*, errW_none, errW_some] <;> rfl), by repeat (first | (with_reducible first | exact HB.out | apply below_alloc | apply pw_below_drewN | apply below_drew1 | refine below_set ?_ GE350.out | refine below_set ?_ GE351.out) | exact HB.out)⟩
                · replace c24 := Bool.eq_false_iff.mpr c24
                  subst c24
                  have H1 : (some false) = some r := by rw [if_neg (show ¬ (false = true) by decide)] at H; exact H
                  clear H
                  have H := H1
                  clear H1
                  obtain rfl := Option.some.inj H
                  have hnb40 := NB350_351.out
                  have hnc40 := NB351_350.out
                  have hcz41_0 : wr.cell? ⟨gb350, 0, none⟩ = some (.string a0_0) := (blk_cell BK350.out 0).trans rfl
                  have hcz41_1 : wr.cell? ⟨gb350, 1, none⟩ = some (.int .i64 a0_1) := (blk_cell BK350.out 1).trans rfl
                  have hcz41_2 : wr.cell? ⟨gb350, 2, none⟩ = some (.int .i64 a0_2) := (blk_cell BK350.out 2).trans rfl
                  have hcz41_3 : wr.cell? ⟨gb350, 3, none⟩ = some (.slice A0_3 l0_3.length c0_3) := (blk_cell BK350.out 3).trans rfl
                  have hcz41_4 : wr.cell? ⟨gb350, 4, none⟩ = some (.slice A0_4 l0_4.length c0_4) := (blk_cell BK350.out 4).trans rfl
                  have hcz41_5 : wr.cell? ⟨gb350, 5, none⟩ = some (.slice A0_5 l0_5.length c0_5) := (blk_cell BK350.out 5).trans rfl
                  have hcz41_6 : wr.cell? ⟨gb350, 6, none⟩ = some (.string a0_6) := (blk_cell BK350.out 6).trans rfl
                  have hcz41_7 : wr.cell? ⟨gb350, 7, none⟩ = some (.int .i64 a0_7) := (blk_cell BK350.out 7).trans rfl
                  have hcz41_8 : wr.cell? ⟨gb350, 8, none⟩ = some (.int .i64 a0_8) := (blk_cell BK350.out 8).trans rfl
                  have hcz41_9 : wr.cell? ⟨gb350, 9, none⟩ = some (.string a0_9) := (blk_cell BK350.out 9).trans rfl
                  have hfz41_0 := blk_frozen BK350.out 0
                  have hfz41_1 := blk_frozen BK350.out 1
                  have hfz41_2 := blk_frozen BK350.out 2
                  have hfz41_3 := blk_frozen BK350.out 3
                  have hfz41_4 := blk_frozen BK350.out 4
                  have hfz41_5 := blk_frozen BK350.out 5
                  have hfz41_6 := blk_frozen BK350.out 6
                  have hfz41_7 := blk_frozen BK350.out 7
                  have hfz41_8 := blk_frozen BK350.out 8
                  have hfz41_9 := blk_frozen BK350.out 9
                  have hcz42_0 : wr.cell? ⟨gb351, 0, none⟩ = some (.string a1_0) := (blk_cell BK351.out 0).trans rfl
                  have hcz42_1 : wr.cell? ⟨gb351, 1, none⟩ = some (.int .i64 a1_1) := (blk_cell BK351.out 1).trans rfl
                  have hcz42_2 : wr.cell? ⟨gb351, 2, none⟩ = some (.int .i64 a1_2) := (blk_cell BK351.out 2).trans rfl
                  have hcz42_3 : wr.cell? ⟨gb351, 3, none⟩ = some (.slice A1_3 l1_3.length c1_3) := (blk_cell BK351.out 3).trans rfl
                  have hcz42_4 : wr.cell? ⟨gb351, 4, none⟩ = some (.slice A1_4 l1_4.length c1_4) := (blk_cell BK351.out 4).trans rfl
                  have hcz42_5 : wr.cell? ⟨gb351, 5, none⟩ = some (.slice A1_5 l1_5.length c1_5) := (blk_cell BK351.out 5).trans rfl
                  have hcz42_6 : wr.cell? ⟨gb351, 6, none⟩ = some (.string a1_6) := (blk_cell BK351.out 6).trans rfl
                  have hcz42_7 : wr.cell? ⟨gb351, 7, none⟩ = some (.int .i64 a1_7) := (blk_cell BK351.out 7).trans rfl
                  have hcz42_8 : wr.cell? ⟨gb351, 8, none⟩ = some (.int .i64 a1_8) := (blk_cell BK351.out 8).trans rfl
                  have hcz42_9 : wr.cell? ⟨gb351, 9, none⟩ = some (.string a1_9) := (blk_cell BK351.out 9).trans rfl
                  have hfz42_0 := blk_frozen BK351.out 0
                  have hfz42_1 := blk_frozen BK351.out 1
                  have hfz42_2 := blk_frozen BK351.out 2
                  have hfz42_3 := blk_frozen BK351.out 3
                  have hfz42_4 := blk_frozen BK351.out 4
                  have hfz42_5 := blk_frozen BK351.out 5
                  have hfz42_6 := blk_frozen BK351.out 6
                  have hfz42_7 := blk_frozen BK351.out 7
                  have hfz42_8 := blk_frozen BK351.out 8
                  have hfz42_9 := blk_frozen BK351.out 9
                  go_wp2_with (first | (go_at_call 26; (with_reducible refine (jobshellref46_sameSnaps.calls k1 _ _ l0_4 _ _ l1_4 true _ ?side1 ?side2 ?side3 ?side4 A21.out).mono ?_); (case side1 => repeat (first | exact (Kd.C_below HR0_4.out HB.out) | (with_reducible refine Kd.C_alloc ?_ _) | (with_reducible refine Kd.C_drewN ?_ _) | (with_reducible refine Kd.C_drew ?_))); (case side2 => exact HC0_4.out); (case side3 => repeat (first | exact (Kd.C_below HR1_4.out HB.out) | (with_reducible refine Kd.C_alloc ?_ _) | (with_reducible refine Kd.C_drewN ?_ _) | (with_reducible refine Kd.C_drew ?_))); (case side4 => exact HC1_4.out); rintro e w' ⟨rfl, ⟨nd, rfl⟩⟩; (try first | exact ⟨rfl, _, World.drewN_drewN _ _ _⟩ | exact ⟨rfl, _, Eq.trans (World.drewN_drewN _ _ _) (congrArg (World.drewN _) (Nat.add_assoc _ _ _))⟩)) | (go_at_call 26; (with_reducible refine (jobshellref46_sameSnaps.calls k1 _ _ l0_5 _ _ l1_5 false _ ?side1 ?side2 ?side3 ?side4 A23.out).mono ?_); (case side1 => repeat (first | exact (Kd.C_below HR0_5.out (by repeat (first | (with_reducible first | exact HB.out | apply below_alloc | apply pw_below_drewN | apply below_drew1 | refine below_set ?_ GE350.out | refine below_set ?_ GE351.out) | exact HB.out))) | (with_reducible refine Kd.C_alloc ?_ _) | (with_reducible refine Kd.C_drewN ?_ _) | (with_reducible refine Kd.C_drew ?_))); (case side2 => exact HC0_5.out); (case side3 => repeat (first | exact (Kd.C_below HR1_5.out (by repeat (first | (with_reducible first | exact HB.out | apply below_alloc | apply pw_below_drewN | apply below_drew1 | refine below_set ?_ GE350.out | refine below_set ?_ GE351.out) | exact HB.out))) | (with_reducible refine Kd.C_alloc ?_ _) | (with_reducible refine Kd.C_drewN ?_ _) | (with_reducible refine Kd.C_drew ?_))); (case side4 => exact HC1_5.out); rintro e w' ⟨rfl, ⟨nd, rfl⟩⟩; (try first | exact ⟨rfl, _, World.drewN_drewN _ _ _⟩ | exact ⟨rfl, _, Eq.trans (World.drewN_drewN _ _ _) (congrArg (World.drewN _) (Nat.add_assoc _ _ _))⟩)))
                  repeat (go_quiet (first | (go_at_call 26; (with_reducible refine (jobshellref46_sameSnaps.calls k1 _ _ l0_4 _ _ l1_4 true _ ?side1 ?side2 ?side3 ?side4 A21.out).mono ?_); (case side1 => repeat (first | exact (Kd.C_below HR0_4.out HB.out) | (with_reducible refine Kd.C_alloc ?_ _) | (with_reducible refine Kd.C_drewN ?_ _) | (with_reducible refine Kd.C_drew ?_))); (case side2 => exact HC0_4.out); (case side3 => repeat (first | exact (Kd.C_below HR1_4.out HB.out) | (with_reducible refine Kd.C_alloc ?_ _) | (with_reducible refine Kd.C_drewN ?_ _) | (with_reducible refine Kd.C_drew ?_))); (case side4 => exact HC1_4.out); rintro e w' ⟨rfl, ⟨nd, rfl⟩⟩; (try first | exact ⟨rfl, _, World.drewN_drewN _ _ _⟩ | exact ⟨rfl, _, Eq.trans (World.drewN_drewN _ _ _) (congrArg (World.drewN _) (Nat.add_assoc _ _ _))⟩)) | (go_at_call 26; (with_reducible refine (jobshellref46_sameSnaps.calls k1 _ _ l0_5 _ _ l1_5 false _ ?side1 ?side2 ?side3 ?side4 A23.out).mono ?_); (case side1 => repeat (first | exact (Kd.C_below HR0_5.out (by repeat (first | (with_reducible first | exact HB.out | apply below_alloc | apply pw_below_drewN | apply below_drew1 | refine below_set ?_ GE350.out | refine below_set ?_ GE351.out) | exact HB.out))) | (with_reducible refine Kd.C_alloc ?_ _) | (with_reducible refine Kd.C_drewN ?_ _) | (with_reducible refine Kd.C_drew ?_))); (case side2 => exact HC0_5.out); (case side3 => repeat (first | exact (Kd.C_below HR1_5.out (by repeat (first | (with_reducible first | exact HB.out | apply below_alloc | apply pw_below_drewN | apply below_drew1 | refine below_set ?_ GE350.out | refine below_set ?_ GE351.out) | exact HB.out))) | (with_reducible refine Kd.C_alloc ?_ _) | (with_reducible refine Kd.C_drewN ?_ _) | (with_reducible refine Kd.C_drew ?_))); (case side4 => exact HC1_5.out); rintro e w' ⟨rfl, ⟨nd, rfl⟩⟩; (try first | exact ⟨rfl, _, World.drewN_drewN _ _ _⟩ | exact ⟨rfl, _, Eq.trans (World.drewN_drewN _ _ _) (congrArg (World.drewN _) (Nat.add_assoc _ _ _))⟩))); try go_wp2_with (first | (go_at_call 26; (with_reducible refine (jobshellref46_sameSnaps.calls k1 _ _ l0_4 _ _ l1_4 true _ ?side1 ?side2 ?side3 ?side4 A21.out).mono ?_); (case side1 => repeat (first | exact (Kd.C_below HR0_4.out HB.out) | (with_reducible refine Kd.C_alloc ?_ _) | (with_reducible refine Kd.C_drewN ?_ _) | (with_reducible refine Kd.C_drew ?_))); (case side2 => exact HC0_4.out); (case side3 => repeat (first | exact (Kd.C_below HR1_4.out HB.out) | (with_reducible refine Kd.C_alloc ?_ _) | (with_reducible refine Kd.C_drewN ?_ _) | (with_reducible refine Kd.C_drew ?_))); (case side4 => exact HC1_4.out); rintro e w' ⟨rfl, ⟨nd, rfl⟩⟩; (try first | exact ⟨rfl, _, World.drewN_drewN _ _ _⟩ | exact ⟨rfl, _, Eq.trans (World.drewN_drewN _ _ _) (congrArg (World.drewN _) (Nat.add_assoc _ _ _))⟩)) | (go_at_call 26; (with_reducible refine (jobshellref46_sameSnaps.calls k1 _ _ l0_5 _ _ l1_5 false _ ?side1 ?side2 ?side3 ?side4 A23.out).mono ?_); (case side1 => repeat (first | exact (Kd.C_below HR0_5.out (by repeat (first | (with_reducible first | exact HB.out | apply below_alloc | apply pw_below_drewN | apply below_drew1 | refine below_set ?_ GE350.out | refine below_set ?_ GE351.out) | exact HB.out))) | (with_reducible refine Kd.C_alloc ?_ _) | (with_reducible refine Kd.C_drewN ?_ _) | (with_reducible refine Kd.C_drew ?_))); (case side2 => exact HC0_5.out); (case side3 => repeat (first | exact (Kd.C_below HR1_5.out (by repeat (first | (with_reducible first | exact HB.out | apply below_alloc | apply pw_below_drewN | apply below_drew1 | refine below_set ?_ GE350.out | refine below_set ?_ GE351.out) | exact HB.out))) | (with_reducible refine Kd.C_alloc ?_ _) | (with_reducible refine Kd.C_drewN ?_ _) | (with_reducible refine Kd.C_drew ?_))); (case side4 => exact HC1_5.out); rintro e w' ⟨rfl, ⟨nd, rfl⟩⟩; (try first | exact ⟨rfl, _, World.drewN_drewN _ _ _⟩ | exact ⟨rfl, _, Eq.trans (World.drewN_drewN _ _ _) (congrArg (World.drewN _) (Nat.add_assoc _ _ _))⟩))))
                  go_ret
                  exact ⟨by first | rfl | (simp [errW_none, errW_some] <;> rfl) | (simp [*, errW_none, errW_some] <;> rfl), by repeat (first | (with_reducible first | exact HB.out | apply below_alloc | apply pw_below_drewN | apply below_drew1 | refine below_set ?_ GE350.out | refine below_set ?_ GE351.out) | exact HB.out)⟩
              · replace c22 := Bool.eq_false_iff.mpr c22
                subst c22
                have H1 : (some false) = some r := by rw [if_neg (show ¬ (false = true) by decide)] at H; exact H
                clear H
                have H := H1
                clear H1
                obtain rfl := Option.some.inj H
                have hnb43 := NB350_351.out
                have hnc43 := NB351_350.out
                have hcz44_0 : wr.cell? ⟨gb350, 0, none⟩ = some (.string a0_0) := (blk_cell BK350.out 0).trans rfl
                have hcz44_1 : wr.cell? ⟨gb350, 1, none⟩ = some (.int .i64 a0_1) := (blk_cell BK350.out 1).trans rfl
                have hcz44_2 : wr.cell? ⟨gb350, 2, none⟩ = some (.int .i64 a0_2) := (blk_cell BK350.out 2).trans rfl
                have hcz44_3 : wr.cell? ⟨gb350, 3, none⟩ = some (.slice A0_3 l0_3.length c0_3) := (blk_cell BK350.out 3).trans rfl
                have hcz44_4 : wr.cell? ⟨gb350, 4, none⟩ = some (.slice A0_4 l0_4.length c0_4) := (blk_cell BK350.out 4).trans rfl
                have hcz44_5 : wr.cell? ⟨gb350, 5, none⟩ = some (.slice A0_5 l0_5.length c0_5) := (blk_cell BK350.out 5).trans rfl
                have hcz44_6 : wr.cell? ⟨gb350, 6, none⟩ = some (.string a0_6) := (blk_cell BK350.out 6).trans rfl
                have hcz44_7 : wr.cell? ⟨gb350, 7, none⟩ = some (.int .i64 a0_7) := (blk_cell BK350.out 7).trans rfl
                have hcz44_8 : wr.cell? ⟨gb350, 8, none⟩ = some (.int .i64 a0_8) := (blk_cell BK350.out 8).trans rfl
                have hcz44_9 : wr.cell? ⟨gb350, 9, none⟩ = some (.string a0_9) := (blk_cell BK350.out 9).trans rfl
                have hfz44_0 := blk_frozen BK350.out 0
                have hfz44_1 := blk_frozen BK350.out 1
                have hfz44_2 := blk_frozen BK350.out 2
                have hfz44_3 := blk_frozen BK350.out 3
                have hfz44_4 := blk_frozen BK350.out 4
                have hfz44_5 := blk_frozen BK350.out 5
                have hfz44_6 := blk_frozen BK350.out 6
                have hfz44_7 := blk_frozen BK350.out 7
                have hfz44_8 := blk_frozen BK350.out 8
                have hfz44_9 := blk_frozen BK350.out 9
                have hcz45_0 : wr.cell? ⟨gb351, 0, none⟩ = some (.string a1_0) := (blk_cell BK351.out 0).trans rfl
                have hcz45_1 : wr.cell? ⟨gb351, 1, none⟩ = some (.int .i64 a1_1) := (blk_cell BK351.out 1).trans rfl
                have hcz45_2 : wr.cell? ⟨gb351, 2, none⟩ = some (.int .i64 a1_2) := (blk_cell BK351.out 2).trans rfl
                have hcz45_3 : wr.cell? ⟨gb351, 3, none⟩ = some (.slice A1_3 l1_3.length c1_3) := (blk_cell BK351.out 3).trans rfl
                have hcz45_4 : wr.cell? ⟨gb351, 4, none⟩ = some (.slice A1_4 l1_4.length c1_4) := (blk_cell BK351.out 4).trans rfl
                have hcz45_5 : wr.cell? ⟨gb351, 5, none⟩ = some (.slice A1_5 l1_5.length c1_5) := (blk_cell BK351.out 5).trans rfl
                have hcz45_6 : wr.cell? ⟨gb351, 6, none⟩ = some (.string a1_6) := (blk_cell BK351.out 6).trans rfl
                have hcz45_7 : wr.cell? ⟨gb351, 7, none⟩ = some (.int .i64 a1_7) := (blk_cell BK351.out 7).trans rfl
                have hcz45_8 : wr.cell? ⟨gb351, 8, none⟩ = some (.int .i64 a1_8) := (blk_cell BK351.out 8).trans rfl
                have hcz45_9 : wr.cell? ⟨gb351, 9, none⟩ = some (.string a1_9) := (blk_cell BK351.out 9).trans rfl
                have hfz45_0 := blk_frozen BK351.out 0
                have hfz45_1 := blk_frozen BK351.out 1
                have hfz45_2 := blk_frozen BK351.out 2
                have hfz45_3 := blk_frozen BK351.out 3
                have hfz45_4 := blk_frozen BK351.out 4
                have hfz45_5 := blk_frozen BK351.out 5
                have hfz45_6 := blk_frozen BK351.out 6
                have hfz45_7 := blk_frozen BK351.out 7
                have hfz45_8 := blk_frozen BK351.out 8
                have hfz45_9 := blk_frozen BK351.out 9
                go_wp2_with (first | (go_at_call 26; (with_reducible refine (jobshellref46_sameSnaps.calls k1 _ _ l0_4 _ _ l1_4 false _ ?side1 ?side2 ?side3 ?side4 A21.out).mono ?_); (case side1 => repeat (first | exact (Kd.C_below HR0_4.out HB.out) | (with_reducible refine Kd.C_alloc ?_ _) | (with_reducible refine Kd.C_drewN ?_ _) | (with_reducible refine Kd.C_drew ?_))); (case side2 => exact HC0_4.out); (case side3 => repeat (first | exact (Kd.C_below HR1_4.out HB.out) | (with_reducible refine Kd.C_alloc ?_ _) | (with_reducible refine Kd.C_drewN ?_ _) | (with_reducible refine Kd.C_drew ?_))); (case side4 => exact HC1_4.out); rintro e w' ⟨rfl, ⟨nd, rfl⟩⟩; (try first | exact ⟨rfl, _, World.drewN_drewN _ _ _⟩ | exact ⟨rfl, _, Eq.trans (World.drewN_drewN _ _ _) (congrArg (World.drewN _) (Nat.add_assoc _ _ _))⟩)))
                repeat (go_quiet (first | (go_at_call 26; (with_reducible refine (jobshellref46_sameSnaps.calls k1 _ _ l0_4 _ _ l1_4 false _ ?side1 ?side2 ?side3 ?side4 A21.out).mono ?_); (case side1 => repeat (first | exact (Kd.C_below HR0_4.out HB.out) | (with_reducible refine Kd.C_alloc ?_ _) | (with_reducible refine Kd.C_drewN ?_ _) | (with_reducible refine Kd.C_drew ?_))); (case side2 => exact HC0_4.out); (case side3 => repeat (first | exact (Kd.C_below HR1_4.out HB.out) | (with_reducible refine Kd.C_alloc ?_ _) | (with_reducible refine Kd.C_drewN ?_ _) | (with_reducible refine Kd.C_drew ?_))); (case side4 => exact HC1_4.out); rintro e w' ⟨rfl, ⟨nd, rfl⟩⟩; (try first | exact ⟨rfl, _, World.drewN_drewN _ _ _⟩ | exact ⟨rfl, _, Eq.trans (World.drewN_drewN _ _ _) (congrArg (World.drewN _) (Nat.add_assoc _ _ _))⟩))); try go_wp2_with (first | (go_at_call 26; (with_reducible refine (jobshellref46_sameSnaps.calls k1 _ _ l0_4 _ _ l1_4 false _ ?side1 ?side2 ?side3 ?side4 A21.out).mono ?_); (case side1 => repeat (first | exact (Kd.C_below HR0_4.out HB.out) | (with_reducible refine Kd.C_alloc ?_ _) | (with_reducible refine Kd.C_drewN ?_ _) | (with_reducible refine Kd.C_drew ?_))); (case side2 => exact HC0_4.out); (case side3 => repeat (first | exact (Kd.C_below HR1_4.out HB.out) | (with_reducible refine Kd.C_alloc ?_ _) | (with_reducible refine Kd.C_drewN ?_ _) | (with_reducible refine Kd.C_drew ?_))); (case side4 => exact HC1_4.out); rintro e w' ⟨rfl, ⟨nd, rfl⟩⟩; (try first | exact ⟨rfl, _, World.drewN_drewN _ _ _⟩ | exact ⟨rfl, _, Eq.trans (World.drewN_drewN _ _ _) (congrArg (World.drewN _) (Nat.add_assoc _ _ _))⟩))))
                go_ret
                exact ⟨by first | rfl | (simp [errW_none, errW_some] <;> rfl) | (simp [*, errW_none, errW_some] <;> rfl), by repeat (first | (with_reducible first | exact HB.out | apply below_alloc | apply pw_below_drewN | apply below_drew1 | refine below_set ?_ GE350.out | refine below_set ?_ GE351.out) | exact HB.out)⟩
            · rw [if_neg c20] at H
              have c20b0 : (a0_2 == a1_2) = false := beq_eq_false_iff_ne.mpr c20
              have c20b1 : (a0_2 != a1_2) = true := bne_iff_ne.mpr c20
              obtain rfl := Option.some.inj H
              have hnb46 := NB350_351.out
              have hnc46 := NB351_350.out
              have hcz47_0 : wr.cell? ⟨gb350, 0, none⟩ = some (.string a0_0) := (blk_cell BK350.out 0).trans rfl
              have hcz47_1 : wr.cell? ⟨gb350, 1, none⟩ = some (.int .i64 a0_1) := (blk_cell BK350.out 1).trans rfl
              have hcz47_2 : wr.cell? ⟨gb350, 2, none⟩ = some (.int .i64 a0_2) := (blk_cell BK350.out 2).trans rfl
              have hcz47_3 : wr.cell? ⟨gb350, 3, none⟩ = some (.slice A0_3 l0_3.length c0_3) := (blk_cell BK350.out 3).trans rfl
              have hcz47_4 : wr.cell? ⟨gb350, 4, none⟩ = some (.slice A0_4 l0_4.length c0_4) := (blk_cell BK350.out 4).trans rfl
              have hcz47_5 : wr.cell? ⟨gb350, 5, none⟩ = some (.slice A0_5 l0_5.length c0_5) := (blk_cell BK350.out 5).trans rfl
              have hcz47_6 : wr.cell? ⟨gb350, 6, none⟩ = some (.string a0_6) := (blk_cell BK350.out 6).trans rfl
              have hcz47_7 : wr.cell? ⟨gb350, 7, none⟩ = some (.int .i64 a0_7) := (blk_cell BK350.out 7).trans rfl
              have hcz47_8 : wr.cell? ⟨gb350, 8, none⟩ = some (.int .i64 a0_8) := (blk_cell BK350.out 8).trans rfl
              have hcz47_9 : wr.cell? ⟨gb350, 9, none⟩ = some (.string a0_9) := (blk_cell BK350.out 9).trans rfl
              have hfz47_0 := blk_frozen BK350.out 0
              have hfz47_1 := blk_frozen BK350.out 1
              have hfz47_2 := blk_frozen BK350.out 2
              have hfz47_3 := blk_frozen BK350.out 3
              have hfz47_4 := blk_frozen BK350.out 4
              have hfz47_5 := blk_frozen BK350.out 5
              have hfz47_6 := blk_frozen BK350.out 6
              have hfz47_7 := blk_frozen BK350.out 7
              have hfz47_8 := blk_frozen BK350.out 8
              have hfz47_9 := blk_frozen BK350.out 9
              have hcz48_0 : wr.cell? ⟨gb351, 0, none⟩ = some (.string a1_0) := (blk_cell BK351.out 0).trans rfl
              have hcz48_1 : wr.cell? ⟨gb351, 1, none⟩ = some (.int .i64 a1_1) := (blk_cell BK351.out 1).trans rfl
              have hcz48_2 : wr.cell? ⟨gb351, 2, none⟩ = some (.int .i64 a1_2) := (blk_cell BK351.out 2).trans rfl
              have hcz48_3 : wr.cell? ⟨gb351, 3, none⟩ = some (.slice A1_3 l1_3.length c1_3) := (blk_cell BK351.out 3).trans rfl
              have hcz48_4 : wr.cell? ⟨gb351, 4, none⟩ = some (.slice A1_4 l1_4.length c1_4) := (blk_cell BK351.out 4).trans rfl
              have hcz48_5 : wr.cell? ⟨gb351, 5, none⟩ = some (.slice A1_5 l1_5.length c1_5) := (blk_cell BK351.out 5).trans rfl
              have hcz48_6 : wr.cell? ⟨gb351, 6, none⟩ = some (.string a1_6) := (blk_cell BK351.out 6).trans rfl
              have hcz48_7 : wr.cell? ⟨gb351, 7, none⟩ = some (.int .i64 a1_7) := (blk_cell BK351.out 7).trans rfl
              have hcz48_8 : wr.cell? ⟨gb351, 8, none⟩ = some (.int .i64 a1_8) := (blk_cell BK351.out 8).trans rfl
              have hcz48_9 : wr.cell? ⟨gb351, 9, none⟩ = some (.string a1_9) := (blk_cell BK351.out 9).trans rfl
              have hfz48_0 := blk_frozen BK351.out 0
              have hfz48_1 := blk_frozen BK351.out 1
              have hfz48_2 := blk_frozen BK351.out 2
              have hfz48_3 := blk_frozen BK351.out 3
              have hfz48_4 := blk_frozen BK351.out 4
              have hfz48_5 := blk_frozen BK351.out 5
              have hfz48_6 := blk_frozen BK351.out 6
              have hfz48_7 := blk_frozen BK351.out 7
              have hfz48_8 := blk_frozen BK351.out 8
              have hfz48_9 := blk_frozen BK351.out 9
              go_wp2
              repeat (go_quiet (fail); try go_wp2)
              go_ret
              exact ⟨by first | rfl | (simp [errW_none, errW_some] <;> rfl) | (simp [*, errW_none, errW_some] <;> rfl), by repeat (first | (with_reducible first | exact HB.out | apply below_alloc | apply pw_below_drewN | apply below_drew1 | refine below_set ?_ GE350.out | refine below_set ?_ GE351.out) | exact HB.out)⟩
          · rw [if_neg c19] at H
            have c19b0 : (a0_0.toList == a1_0.toList && (a0_1 == a1_1)) = false := by simpa using c19
            (try (have c19b1 : decide (a0_0.toList = a1_0.toList && (a0_1 == a1_1)) = false := by simpa using c19))
            (try (have c19b2 : (a0_0.toList == a1_0.toList && (a0_1 == a1_1)) = false := by simpa using c19))
            (try (have c19b3 : ¬ (a0_0.toList = a1_0.toList && (a0_1 == a1_1)) := by simpa using c19))
            clear c19
            obtain rfl := Option.some.inj H
            have hnb49 := NB350_351.out
            have hnc49 := NB351_350.out
            have hcz50_0 : wr.cell? ⟨gb350, 0, none⟩ = some (.string a0_0) := (blk_cell BK350.out 0).trans rfl
            have hcz50_1 : wr.cell? ⟨gb350, 1, none⟩ = some (.int .i64 a0_1) := (blk_cell BK350.out 1).trans rfl
            have hcz50_2 : wr.cell? ⟨gb350, 2, none⟩ = some (.int .i64 a0_2) := (blk_cell BK350.out 2).trans rfl
            have hcz50_3 : wr.cell? ⟨gb350, 3, none⟩ = some (.slice A0_3 l0_3.length c0_3) := (blk_cell BK350.out 3).trans rfl
            have hcz50_4 : wr.cell? ⟨gb350, 4, none⟩ = some (.slice A0_4 l0_4.length c0_4) := (blk_cell BK350.out 4).trans rfl
            have hcz50_5 : wr.cell? ⟨gb350, 5, none⟩ = some (.slice A0_5 l0_5.length c0_5) := (blk_cell BK350.out 5).trans rfl
            have hcz50_6 : wr.cell? ⟨gb350, 6, none⟩ = some (.string a0_6) := (blk_cell BK350.out 6).trans rfl
            have hcz50_7 : wr.cell? ⟨gb350, 7, none⟩ = some (.int .i64 a0_7) := (blk_cell BK350.out 7).trans rfl
            have hcz50_8 : wr.cell? ⟨gb350, 8, none⟩ = some (.int .i64 a0_8) := (blk_cell BK350.out 8).trans rfl
            have hcz50_9 : wr.cell? ⟨gb350, 9, none⟩ = some (.string a0_9) := (blk_cell BK350.out 9).trans rfl
            have hfz50_0 := blk_frozen BK350.out 0
            have hfz50_1 := blk_frozen BK350.out 1
            have hfz50_2 := blk_frozen BK350.out 2
            have hfz50_3 := blk_frozen BK350.out 3
            have hfz50_4 := blk_frozen BK350.out 4
            have hfz50_5 := blk_frozen BK350.out 5
            have hfz50_6 := blk_frozen BK350.out 6
            have hfz50_7 := blk_frozen BK350.out 7
            have hfz50_8 := blk_frozen BK350.out 8
            have hfz50_9 := blk_frozen BK350.out 9
            have hcz51_0 : wr.cell? ⟨gb351, 0, none⟩ = some (.string a1_0) := (blk_cell BK351.out 0).trans rfl
            have hcz51_1 : wr.cell? ⟨gb351, 1, none⟩ = some (.int .i64 a1_1) := (blk_cell BK351.out 1).trans rfl
            have hcz51_2 : wr.cell? ⟨gb351, 2, none⟩ = some (.int .i64 a1_2) := (blk_cell BK351.out 2).trans rfl
            have hcz51_3 : wr.cell? ⟨gb351, 3, none⟩ = some (.slice A1_3 l1_3.length c1_3) := (blk_cell BK351.out 3).trans rfl
            have hcz51_4 : wr.cell? ⟨gb351, 4, none⟩ = some (.slice A1_4 l1_4.length c1_4) := (blk_cell BK351.out 4).trans rfl
            have hcz51_5 : wr.cell? ⟨gb351, 5, none⟩ = some (.slice A1_5 l1_5.length c1_5) := (blk_cell BK351.out 5).trans rfl
            have hcz51_6 : wr.cell? ⟨gb351, 6, none⟩ = some (.string a1_6) := (blk_cell BK351.out 6).trans rfl
            have hcz51_7 : wr.cell? ⟨gb351, 7, none⟩ = some (.int .i64 a1_7) := (blk_cell BK351.out 7).trans rfl
            have hcz51_8 : wr.cell? ⟨gb351, 8, none⟩ = some (.int .i64 a1_8) := (blk_cell BK351.out 8).trans rfl
            have hcz51_9 : wr.cell? ⟨gb351, 9, none⟩ = some (.string a1_9) := (blk_cell BK351.out 9).trans rfl
            have hfz51_0 := blk_frozen BK351.out 0
            have hfz51_1 := blk_frozen BK351.out 1
            have hfz51_2 := blk_frozen BK351.out 2
            have hfz51_3 := blk_frozen BK351.out 3
            have hfz51_4 := blk_frozen BK351.out 4
            have hfz51_5 := blk_frozen BK351.out 5
            have hfz51_6 := blk_frozen BK351.out 6
            have hfz51_7 := blk_frozen BK351.out 7
            have hfz51_8 := blk_frozen BK351.out 8
            have hfz51_9 := blk_frozen BK351.out 9
            go_wp2
            repeat (go_quiet (fail); try go_wp2)
            go_ret
            exact ⟨by first | rfl | (simp [errW_none, errW_some] <;> rfl) | (simp [*, errW_none, errW_some] <;> rfl), by repeat (first | (with_reducible first | exact HB.out | apply below_alloc | apply pw_below_drewN | apply below_drew1 | refine below_set ?_ GE350.out | refine below_set ?_ GE351.out) | exact HB.out)⟩
  · rw [if_neg c3] at H
    have c3b0 : ((l0_3.length : Int) == (l1_3.length : Int)) = false := beq_eq_false_iff_ne.mpr c3
    have c3b1 : ((l0_3.length : Int) != (l1_3.length : Int)) = true := bne_iff_ne.mpr c3
    have c3b2 : (l0_3.length == l1_3.length) = false := by first | simpa using c3 | (simp at c3 ⊢; omega)
    obtain rfl := Option.some.inj H
    go_enter Try.func13, Try.ntmps13
    go_wp2_with (first | ((with_reducible refine gate_dst (N := 2) rfl ?_); refine box_event ?hg (N := 2) ?hd (cs := #[.string a0_0, .int .i64 a0_1, .int .i64 a0_2, .slice A0_3 l0_3.length c0_3, .slice A0_4 l0_4.length c0_4, .slice A0_5 l0_5.length c0_5, .string a0_6, .int .i64 a0_7, .int .i64 a0_8, .string a0_9]) (t := 27) ?hr ?_; (case hd => rfl); (case hg => rfl); (case hr => first | (go_simp; done) | (go_simp; rfl)); intro gb350 hg w52 hbox hb; have n0_ := Aside0.mk (below_step (by repeat (first | (with_reducible first | exact HB.out | apply below_alloc | apply pw_below_drewN | apply below_drew1) | exact HB.out)) hb); have n1_ := Aside0.mk (hbox); have n2_ := Aside0.mk ((by rw [hg]; exact (below_size (by repeat (first | (with_reducible first | exact HB.out | apply below_alloc | apply pw_below_drewN | apply below_drew1) | exact HB.out))) : w.heap.size ≤ gb350)); have n3_ := Aside0.mk ((by rw [hg]; exact (below_size (by repeat (first | (with_reducible first | exact HB.out | apply below_alloc | apply pw_below_drewN | apply below_drew1) | exact HB.out))) : w.heap.size ≤ gb350)); clear HB; have HB := n0_; have BK350 := n1_; have GW350 := n2_; have GE350 := n3_; clear n0_ n1_ n2_ n3_; clear hb hbox hg) | ((with_reducible refine gate_dst (N := 3) rfl ?_); refine box_event ?hg (N := 3) ?hd (cs := #[.string a1_0, .int .i64 a1_1, .int .i64 a1_2, .slice A1_3 l1_3.length c1_3, .slice A1_4 l1_4.length c1_4, .slice A1_5 l1_5.length c1_5, .string a1_6, .int .i64 a1_7, .int .i64 a1_8, .string a1_9]) (t := 27) ?hr ?_; (case hd => rfl); (case hg => rfl); (case hr => first | (go_simp; done) | (go_simp; rfl)); intro gb351 hg w53 hbox hb; have n0_ := Aside0.mk (blk_below (g := gb350) (o := .cells #[.string a0_0, .int .i64 a0_1, .int .i64 a0_2, .slice A0_3 l0_3.length c0_3, .slice A0_4 l0_4.length c0_4, .slice A0_5 l0_5.length c0_5, .string a0_6, .int .i64 a0_7, .int .i64 a0_8, .string a0_9] 27 (0, 0)) (by (with_reducible repeat (first | refine blk_drewN ?_ _ | refine blk_drew ?_ | refine blk_alloc ?_ _)); exact BK350.out) hb); have n1_ := Aside0.mk (below_step (by repeat (first | (with_reducible first | exact HB.out | apply below_alloc | apply pw_below_drewN | apply below_drew1 | refine below_set ?_ GE350.out) | exact HB.out)) hb); have n2_ := Aside0.mk (hbox); have n3_ := Aside0.mk ((by rw [hg]; exact (below_size (by repeat (first | (with_reducible first | exact HB.out | apply below_alloc | apply pw_below_drewN | apply below_drew1 | refine below_set ?_ GE350.out) | exact HB.out))) : w.heap.size ≤ gb351)); have n4_ := Aside0.mk ((by rw [hg]; exact (below_size (by repeat (first | (with_reducible first | exact HB.out | apply below_alloc | apply pw_below_drewN | apply below_drew1 | refine below_set ?_ GE350.out) | exact HB.out))) : w.heap.size ≤ gb351)); have n5_ := Aside0.mk ((by rw [hg]; exact Nat.ne_of_lt (blk_lt (g := gb350) (o := .cells #[.string a0_0, .int .i64 a0_1, .int .i64 a0_2, .slice A0_3 l0_3.length c0_3, .slice A0_4 l0_4.length c0_4, .slice A0_5 l0_5.length c0_5, .string a0_6, .int .i64 a0_7, .int .i64 a0_8, .string a0_9] 27 (0, 0)) (by (with_reducible repeat (first | refine blk_drewN ?_ _ | refine blk_drew ?_ | refine blk_alloc ?_ _)); exact BK350.out)) : gb350 ≠ gb351)); have n6_ := Aside0.mk ((by rw [hg]; exact Nat.ne_of_gt (blk_lt (g := gb350) (o := .cells #[.string a0_0, .int .i64 a0_1, .int .i64 a0_2, .slice A0_3 l0_3.length c0_3, .slice A0_4 l0_4.length c0_4, .slice A0_5 l0_5.length c0_5, .string a0_6, .int .i64 a0_7, .int .i64 a0_8, .string a0_9] 27 (0, 0)) (by (with_reducible repeat (first | refine blk_drewN ?_ _ | refine blk_drew ?_ | refine blk_alloc ?_ _)); exact BK350.out)) : gb351 ≠ gb350)); clear BK350; clear HB; have BK350 := n0_; have HB := n1_; have BK351 := n2_; have GW351 := n3_; have GE351 := n4_; have NB350_351 := n5_; have NB351_350 := n6_; clear n0_ n1_ n2_ n3_ n4_ n5_ n6_; clear hb hbox hg; have hnb54 := NB350_351.out; have hnc54 := NB351_350.out; have hcz55_0 : w53.cell? ⟨gb350, 0, none⟩ = some (.string a0_0) := (blk_cell BK350.out 0).trans rfl; have hcz55_1 : w53.cell? ⟨gb350, 1, none⟩ = some (.int .i64 a0_1) := (blk_cell BK350.out 1).trans rfl; have hcz55_2 : w53.cell? ⟨gb350, 2, none⟩ = some (.int .i64 a0_2) := (blk_cell BK350.out 2).trans rfl; have hcz55_3 : w53.cell? ⟨gb350, 3, none⟩ = some (.slice A0_3 l0_3.length c0_3) := (blk_cell BK350.out 3).trans rfl; have hcz55_4 : w53.cell? ⟨gb350, 4, none⟩ = some (.slice A0_4 l0_4.length c0_4) := (blk_cell BK350.out 4).trans rfl; have hcz55_5 : w53.cell? ⟨gb350, 5, none⟩ = some (.slice A0_5 l0_5.length c0_5) := (blk_cell BK350.out 5).trans rfl; have hcz55_6 : w53.cell? ⟨gb350, 6, none⟩ = some (.string a0_6) := (blk_cell BK350.out 6).trans rfl; have hcz55_7 : w53.cell? ⟨gb350, 7, none⟩ = some (.int .i64 a0_7) := (blk_cell BK350.out 7).trans rfl; have hcz55_8 : w53.cell? ⟨gb350, 8, none⟩ = some (.int .i64 a0_8) := (blk_cell BK350.out 8).trans rfl; have hcz55_9 : w53.cell? ⟨gb350, 9, none⟩ = some (.string a0_9) := (blk_cell BK350.out 9).trans rfl; have hfz55_0 := blk_frozen BK350.out 0; have hfz55_1 := blk_frozen BK350.out 1; have hfz55_2 := blk_frozen BK350.out 2; have hfz55_3 := blk_frozen BK350.out 3; have hfz55_4 := blk_frozen BK350.out 4; have hfz55_5 := blk_frozen BK350.out 5; have hfz55_6 := blk_frozen BK350.out 6; have hfz55_7 := blk_frozen BK350.out 7; have hfz55_8 := blk_frozen BK350.out 8; have hfz55_9 := blk_frozen BK350.out 9; have hcz56_0 : w53.cell? ⟨gb351, 0, none⟩ = some (.string a1_0) := (blk_cell BK351.out 0).trans rfl; have hcz56_1 : w53.cell? ⟨gb351, 1, none⟩ = some (.int .i64 a1_1) := (blk_cell BK351.out 1).trans rfl; have hcz56_2 : w53.cell? ⟨gb351, 2, none⟩ = some (.int .i64 a1_2) := (blk_cell BK351.out 2).trans rfl; have hcz56_3 : w53.cell? ⟨gb351, 3, none⟩ = some (.slice A1_3 l1_3.length c1_3) := (blk_cell BK351.out 3).trans rfl; have hcz56_4 : w53.cell? ⟨gb351, 4, none⟩ = some (.slice A1_4 l1_4.length c1_4) := (blk_cell BK351.out 4).trans rfl; have hcz56_5 : w53.cell? ⟨gb351, 5, none⟩ = some (.slice A1_5 l1_5.length c1_5) := (blk_cell BK351.out 5).trans rfl; have hcz56_6 : w53.cell? ⟨gb351, 6, none⟩ = some (.string a1_6) := (blk_cell BK351.out 6).trans rfl; have hcz56_7 : w53.cell? ⟨gb351, 7, none⟩ = some (.int .i64 a1_7) := (blk_cell BK351.out 7).trans rfl; have hcz56_8 : w53.cell? ⟨gb351, 8, none⟩ = some (.int .i64 a1_8) := (blk_cell BK351.out 8).trans rfl; have hcz56_9 : w53.cell? ⟨gb351, 9, none⟩ = some (.string a1_9) := (blk_cell BK351.out 9).trans rfl; have hfz56_0 := blk_frozen BK351.out 0; have hfz56_1 := blk_frozen BK351.out 1; have hfz56_2 := blk_frozen BK351.out 2; have hfz56_3 := blk_frozen BK351.out 3; have hfz56_4 := blk_frozen BK351.out 4; have hfz56_5 := blk_frozen BK351.out 5; have hfz56_6 := blk_frozen BK351.out 6; have hfz56_7 := blk_frozen BK351.out 7; have hfz56_8 := blk_frozen BK351.out 8; have hfz56_9 := blk_frozen BK351.out 9))
    repeat (go_quiet (first | ((with_reducible refine gate_dst (N := 2) rfl ?_); refine box_event ?hg (N := 2) ?hd (cs := #[.string a0_0, .int .i64 a0_1, .int .i64 a0_2, .slice A0_3 l0_3.length c0_3, .slice A0_4 l0_4.length c0_4, .slice A0_5 l0_5.length c0_5, .string a0_6, .int .i64 a0_7, .int .i64 a0_8, .string a0_9]) (t := 27) ?hr ?_; (case hd => rfl); (case hg => rfl); (case hr => first | (go_simp; done) | (go_simp; rfl)); intro gb350 hg w52 hbox hb; have n0_ := Aside0.mk (below_step (by repeat (first | (with_reducible first | exact HB.out | apply below_alloc | apply pw_below_drewN | apply below_drew1) | exact HB.out)) hb); have n1_ := Aside0.mk (hbox); have n2_ := Aside0.mk ((by rw [hg]; exact (below_size (by repeat (first | (with_reducible first | exact HB.out | apply below_alloc | apply pw_below_drewN | apply below_drew1) | exact HB.out))) : w.heap.size ≤ gb350)); have n3_ := Aside0.mk ((by rw [hg]; exact (below_size (by repeat (first | (with_reducible first | exact HB.out | apply below_alloc | apply pw_below_drewN | apply below_drew1) | exact HB.out))) : w.heap.size ≤ gb350)); clear HB; have HB := n0_; have BK350 := n1_; have GW350 := n2_; have GE350 := n3_; clear n0_ n1_ n2_ n3_; clear hb hbox hg) | ((with_reducible refine gate_dst (N := 3) rfl ?_); refine box_event ?hg (N := 3) ?hd (cs := #[.string a1_0, .int .i64 a1_1, .int .i64 a1_2, .slice A1_3 l1_3.length c1_3, .slice A1_4 l1_4.length c1_4, .slice A1_5 l1_5.length c1_5, .string a1_6, .int .i64 a1_7, .int .i64 a1_8, .string a1_9]) (t := 27) ?hr ?_; (case hd => rfl); (case hg => rfl); (case hr => first | (go_simp; done) | (go_simp; rfl)); intro gb351 hg w53 hbox hb; have n0_ := Aside0.mk (blk_below (g := gb350) (o := .cells #[.string a0_0, .int .i64 a0_1, .int .i64 a0_2, .slice A0_3 l0_3.length c0_3, .slice A0_4 l0_4.length c0_4, .slice A0_5 l0_5.length c0_5, .string a0_6, .int .i64 a0_7, .int .i64 a0_8, .string a0_9] 27 (0, 0)) (by (with_reducible repeat (first | refine blk_drewN ?_ _ | refine blk_drew ?_ | refine blk_alloc ?_ _)); exact BK350.out) hb); have n1_ := Aside0.mk (below_step (by repeat (first | (with_reducible first | exact HB.out | apply below_alloc | apply pw_below_drewN | apply below_drew1 | refine below_set ?_ GE350.out) | exact HB.out)) hb); have n2_ := Aside0.mk (hbox); have n3_ := Aside0.mk ((by rw [hg]; exact (below_size (by repeat (first | (with_reducible first | exact HB.out | apply below_alloc | apply pw_below_drewN | apply below_drew1 | refine below_set ?_ GE350.out) | exact HB.out))) : w.heap.size ≤ gb351)); have n4_ := Aside0.mk ((by rw [hg]; exact (below_size (by repeat (first | (with_reducible first | exact HB.out | apply below_alloc | apply pw_below_drewN | apply below_drew1 | refine below_set ?_ GE350.out) | exact HB.out))) : w.heap.size ≤ gb351)); have n5_ := Aside0.mk ((by rw [hg]; exact Nat.ne_of_lt (blk_lt (g := gb350) (o := .cells #[.string a0_0, .int .i64 a0_1, .int .i64 a0_2, .slice A0_3 l0_3.length c0_3, .slice A0_4 l0_4.length c0_4, .slice A0_5 l0_5.length c0_5, .string a0_6, .int .i64 a0_7, .int .i64 a0_8, .string a0_9] 27 (0, 0)) (by (with_reducible repeat (first | refine blk_drewN ?_ _ | refine blk_drew ?_ | refine blk_alloc ?_ _)); exact BK350.out)) : gb350 ≠ gb351)); have n6_ := Aside0.mk ((by rw [hg]; exact Nat.ne_of_gt (blk_lt (g := gb350) (o := .cells #[.string a0_0, .int .i64 a0_1, .int .i64 a0_2, .slice A0_3 l0_3.length c0_3, .slice A0_4 l0_4.length c0_4, .slice A0_5 l0_5.length c0_5, .string a0_6, .int .i64 a0_7, .int .i64 a0_8, .string a0_9] 27 (0, 0)) (by (with_reducible repeat (first | refine blk_drewN ?_ _ | refine blk_drew ?_ | refine blk_alloc ?_ _)); exact BK350.out)) : gb351 ≠ gb350)); clear BK350; clear HB; have BK350 := n0_; have HB := n1_; have BK351 := n2_; have GW351 := n3_; have GE351 := n4_; have NB350_351 := n5_; have NB351_350 := n6_; clear n0_ n1_ n2_ n3_ n4_ n5_ n6_; clear hb hbox hg; have hnb54 := NB350_351.out; have hnc54 := NB351_350.out; have hcz55_0 : w53.cell? ⟨gb350, 0, none⟩ = some (.string a0_0) := (blk_cell BK350.out 0).trans rfl; have hcz55_1 : w53.cell? ⟨gb350, 1, none⟩ = some (.int .i64 a0_1) := (blk_cell BK350.out 1).trans rfl; have hcz55_2 : w53.cell? ⟨gb350, 2, none⟩ = some (.int .i64 a0_2) := (blk_cell BK350.out 2).trans rfl; have hcz55_3 : w53.cell? ⟨gb350, 3, none⟩ = some (.slice A0_3 l0_3.length c0_3) := (blk_cell BK350.out 3).trans rfl; have hcz55_4 : w53.cell? ⟨gb350, 4, none⟩ = some (.slice A0_4 l0_4.length c0_4) := (blk_cell BK350.out 4).trans rfl; have hcz55_5 : w53.cell? ⟨gb350, 5, none⟩ = some (.slice A0_5 l0_5.length c0_5) := (blk_cell BK350.out 5).trans rfl; have hcz55_6 : w53.cell? ⟨gb350, 6, none⟩ = some (.string a0_6) := (blk_cell BK350.out 6).trans rfl; have hcz55_7 : w53.cell? ⟨gb350, 7, none⟩ = some (.int .i64 a0_7) := (blk_cell BK350.out 7).trans rfl; have hcz55_8 : w53.cell? ⟨gb350, 8, none⟩ = some (.int .i64 a0_8) := (blk_cell BK350.out 8).trans rfl; have hcz55_9 : w53.cell? ⟨gb350, 9, none⟩ = some (.string a0_9) := (blk_cell BK350.out 9).trans rfl; have hfz55_0 := blk_frozen BK350.out 0; have hfz55_1 := blk_frozen BK350.out 1; have hfz55_2 := blk_frozen BK350.out 2; have hfz55_3 := blk_frozen BK350.out 3; have hfz55_4 := blk_frozen BK350.out 4; have hfz55_5 := blk_frozen BK350.out 5; have hfz55_6 := blk_frozen BK350.out 6; have hfz55_7 := blk_frozen BK350.out 7; have hfz55_8 := blk_frozen BK350.out 8; have hfz55_9 := blk_frozen BK350.out 9; have hcz56_0 : w53.cell? ⟨gb351, 0, none⟩ = some (.string a1_0) := (blk_cell BK351.out 0).trans rfl; have hcz56_1 : w53.cell? ⟨gb351, 1, none⟩ = some (.int .i64 a1_1) := (blk_cell BK351.out 1).trans rfl; have hcz56_2 : w53.cell? ⟨gb351, 2, none⟩ = some (.int .i64 a1_2) := (blk_cell BK351.out 2).trans rfl; have hcz56_3 : w53.cell? ⟨gb351, 3, none⟩ = some (.slice A1_3 l1_3.length c1_3) := (blk_cell BK351.out 3).trans rfl; have hcz56_4 : w53.cell? ⟨gb351, 4, none⟩ = some (.slice A1_4 l1_4.length c1_4) := (blk_cell BK351.out 4).trans rfl; have hcz56_5 : w53.cell? ⟨gb351, 5, none⟩ = some (.slice A1_5 l1_5.length c1_5) := (blk_cell BK351.out 5).trans rfl; have hcz56_6 : w53.cell? ⟨gb351, 6, none⟩ = some (.string a1_6) := (blk_cell BK351.out 6).trans rfl; have hcz56_7 : w53.cell? ⟨gb351, 7, none⟩ = some (.int .i64 a1_7) := (blk_cell BK351.out 7).trans rfl; have hcz56_8 : w53.cell? ⟨gb351, 8, none⟩ = some (.int .i64 a1_8) := (blk_cell BK351.out 8).trans rfl; have hcz56_9 : w53.cell? ⟨gb351, 9, none⟩ = some (.string a1_9) := (blk_cell BK351.out 9).trans rfl; have hfz56_0 := blk_frozen BK351.out 0; have hfz56_1 := blk_frozen BK351.out 1; have hfz56_2 := blk_frozen BK351.out 2; have hfz56_3 := blk_frozen BK351.out 3; have hfz56_4 := blk_frozen BK351.out 4; have hfz56_5 := blk_frozen BK351.out 5; have hfz56_6 := blk_frozen BK351.out 6; have hfz56_7 := blk_frozen BK351.out 7; have hfz56_8 := blk_frozen BK351.out 8; have hfz56_9 := blk_frozen BK351.out 9)); try go_wp2_with (first | ((with_reducible refine gate_dst (N := 2) rfl ?_); refine box_event ?hg (N := 2) ?hd (cs := #[.string a0_0, .int .i64 a0_1, .int .i64 a0_2, .slice A0_3 l0_3.length c0_3, .slice A0_4 l0_4.length c0_4, .slice A0_5 l0_5.length c0_5, .string a0_6, .int .i64 a0_7, .int .i64 a0_8, .string a0_9]) (t := 27) ?hr ?_; (case hd => rfl); (case hg => rfl); (case hr => first | (go_simp; done) | (go_simp; rfl)); intro gb350 hg w52 hbox hb; have n0_ := Aside0.mk (below_step (by repeat (first | (with_reducible first | exact HB.out | apply below_alloc | apply pw_below_drewN | apply below_drew1) | exact HB.out)) hb); have n1_ := Aside0.mk (hbox); have n2_ := Aside0.mk ((by rw [hg]; exact (below_size (by repeat (first | (with_reducible first | exact HB.out | apply below_alloc | apply pw_below_drewN | apply below_drew1) | exact HB.out))) : w.heap.size ≤ gb350)); have n3_ := Aside0.mk ((by rw [hg]; exact (below_size (by repeat (first | (with_reducible first | exact HB.out | apply below_alloc | apply pw_below_drewN | apply below_drew1) | exact HB.out))) : w.heap.size ≤ gb350)); clear HB; have HB := n0_; have BK350 := n1_; have GW350 := n2_; have GE350 := n3_; clear n0_ n1_ n2_ n3_; clear hb hbox hg) | ((with_reducible refine gate_dst (N := 3) rfl ?_); refine box_event ?hg (N := 3) ?hd (cs := #[.string a1_0, .int .i64 a1_1, .int .i64 a1_2, .slice A1_3 l1_3.length c1_3, .slice A1_4 l1_4.length c1_4, .slice A1_5 l1_5.length c1_5, .string a1_6, .int .i64 a1_7, .int .i64 a1_8, .string a1_9]) (t := 27) ?hr ?_; (case hd => rfl); (case hg => rfl); (case hr => first | (go_simp; done) | (go_simp; rfl)); intro gb351 hg w53 hbox hb; have n0_ := Aside0.mk (blk_below (g := gb350) (o := .cells #[.string a0_0, .int .i64 a0_1, .int .i64 a0_2, .slice A0_3 l0_3.length c0_3, .slice A0_4 l0_4.length c0_4, .slice A0_5 l0_5.length c0_5, .string a0_6, .int .i64 a0_7, .int .i64 a0_8, .string a0_9] 27 (0, 0)) (by (with_reducible repeat (first | refine blk_drewN ?_ _ | refine blk_drew ?_ | refine blk_alloc ?_ _)); exact BK350.out) hb); have n1_ := Aside0.mk (below_step (by repeat (first | (with_reducible first | exact HB.out | apply below_alloc | apply pw_below_drewN | apply below_drew1 | refine below_set ?_ GE350.out) | exact HB.out)) hb); have n2_ := Aside0.mk (hbox); have n3_ := Aside0.mk ((by rw [hg]; exact (below_size (by repeat (first | (with_reducible first | exact HB.out | apply below_alloc | apply pw_below_drewN | apply below_drew1 | refine below_set ?_ GE350.out) | exact HB.out))) : w.heap.size ≤ gb351)); have n4_ := Aside0.mk ((by rw [hg]; exact (below_size (by repeat (first | (with_reducible first | exact HB.out | apply below_alloc | apply pw_below_drewN | apply below_drew1 | refine below_set ?_ GE350.out) | exact HB.out))) : w.heap.size ≤ gb351)); have n5_ := Aside0.mk ((by rw [hg]; exact Nat.ne_of_lt (blk_lt (g := gb350) (o := .cells #[.string a0_0, .int .i64 a0_1, .int .i64 a0_2, .slice A0_3 l0_3.length c0_3, .slice A0_4 l0_4.length c0_4, .slice A0_5 l0_5.length c0_5, .string a0_6, .int .i64 a0_7, .int .i64 a0_8, .string a0_9] 27 (0, 0)) (by (with_reducible repeat (first | refine blk_drewN ?_ _ | refine blk_drew ?_ | refine blk_alloc ?_ _)); exact BK350.out)) : gb350 ≠ gb351)); have n6_ := Aside0.mk ((by rw [hg]; exact Nat.ne_of_gt (blk_lt (g := gb350) (o := .cells #[.string a0_0, .int .i64 a0_1, .int .i64 a0_2, .slice A0_3 l0_3.length c0_3, .slice A0_4 l0_4.length c0_4, .slice A0_5 l0_5.length c0_5, .string a0_6, .int .i64 a0_7, .int .i64 a0_8, .string a0_9] 27 (0, 0)) (by (with_reducible repeat (first | refine blk_drewN ?_ _ | refine blk_drew ?_ | refine blk_alloc ?_ _)); exact BK350.out)) : gb351 ≠ gb350)); clear BK350; clear HB; have BK350 := n0_; have HB := n1_; have BK351 := n2_; have GW351 := n3_; have GE351 := n4_; have NB350_351 := n5_; have NB351_350 := n6_; clear n0_ n1_ n2_ n3_ n4_ n5_ n6_; clear hb hbox hg; have hnb54 := NB350_351.out; have hnc54 := NB351_350.out; have hcz55_0 : w53.cell? ⟨gb350, 0, none⟩ = some (.string a0_0) := (blk_cell BK350.out 0).trans rfl; have hcz55_1 : w53.cell? ⟨gb350, 1, none⟩ = some (.int .i64 a0_1) := (blk_cell BK350.out 1).trans rfl; have hcz55_2 : w53.cell? ⟨gb350, 2, none⟩ = some (.int .i64 a0_2) := (blk_cell BK350.out 2).trans rfl; have hcz55_3 : w53.cell? ⟨gb350, 3, none⟩ = some (.slice A0_3 l0_3.length c0_3) := (blk_cell BK350.out 3).trans rfl; have hcz55_4 : w53.cell? ⟨gb350, 4, none⟩ = some (.slice A0_4 l0_4.length c0_4) := (blk_cell BK350.out 4).trans rfl; have hcz55_5 : w53.cell? ⟨gb350, 5, none⟩ = some (.slice A0_5 l0_5.length c0_5) := (blk_cell BK350.out 5).trans rfl; have hcz55_6 : w53.cell? ⟨gb350, 6, none⟩ = some (.string a0_6) := (blk_cell BK350.out 6).trans rfl; have hcz55_7 : w53.cell? ⟨gb350, 7, none⟩ = some (.int .i64 a0_7) := (blk_cell BK350.out 7).trans rfl; have hcz55_8 : w53.cell? ⟨gb350, 8, none⟩ = some (.int .i64 a0_8) := (blk_cell BK350.out 8).trans rfl; have hcz55_9 : w53.cell? ⟨gb350, 9, none⟩ = some (.string a0_9) := (blk_cell BK350.out 9).trans rfl; have hfz55_0 := blk_frozen BK350.out 0; have hfz55_1 := blk_frozen BK350.out 1; have hfz55_2 := blk_frozen BK350.out 2; have hfz55_3 := blk_frozen BK350.out 3; have hfz55_4 := blk_frozen BK350.out 4; have hfz55_5 := blk_frozen BK350.out 5; have hfz55_6 := blk_frozen BK350.out 6; have hfz55_7 := blk_frozen BK350.out 7; have hfz55_8 := blk_frozen BK350.out 8; have hfz55_9 := blk_frozen BK350.out 9; have hcz56_0 : w53.cell? ⟨gb351, 0, none⟩ = some (.string a1_0) := (blk_cell BK351.out 0).trans rfl; have hcz56_1 : w53.cell? ⟨gb351, 1, none⟩ = some (.int .i64 a1_1) := (blk_cell BK351.out 1).trans rfl; have hcz56_2 : w53.cell? ⟨gb351, 2, none⟩ = some (.int .i64 a1_2) := (blk_cell BK351.out 2).trans rfl; have hcz56_3 : w53.cell? ⟨gb351, 3, none⟩ = some (.slice A1_3 l1_3.length c1_3) := (blk_cell BK351.out 3).trans rfl; have hcz56_4 : w53.cell? ⟨gb351, 4, none⟩ = some (.slice A1_4 l1_4.length c1_4) := (blk_cell BK351.out 4).trans rfl; have hcz56_5 : w53.cell? ⟨gb351, 5, none⟩ = some (.slice A1_5 l1_5.length c1_5) := (blk_cell BK351.out 5).trans rfl; have hcz56_6 : w53.cell? ⟨gb351, 6, none⟩ = some (.string a1_6) := (blk_cell BK351.out 6).trans rfl; have hcz56_7 : w53.cell? ⟨gb351, 7, none⟩ = some (.int .i64 a1_7) := (blk_cell BK351.out 7).trans rfl; have hcz56_8 : w53.cell? ⟨gb351, 8, none⟩ = some (.int .i64 a1_8) := (blk_cell BK351.out 8).trans rfl; have hcz56_9 : w53.cell? ⟨gb351, 9, none⟩ = some (.string a1_9) := (blk_cell BK351.out 9).trans rfl; have hfz56_0 := blk_frozen BK351.out 0; have hfz56_1 := blk_frozen BK351.out 1; have hfz56_2 := blk_frozen BK351.out 2; have hfz56_3 := blk_frozen BK351.out 3; have hfz56_4 := blk_frozen BK351.out 4; have hfz56_5 := blk_frozen BK351.out 5; have hfz56_6 := blk_frozen BK351.out 6; have hfz56_7 := blk_frozen BK351.out 7; have hfz56_8 := blk_frozen BK351.out 8; have hfz56_9 := blk_frozen BK351.out 9)))
    go_ret
    exact ⟨by first | rfl | (simp [errW_none, errW_some] <;> rfl) | (simp [*, errW_none, errW_some] <;> rfl), by repeat (first | (with_reducible first | exact HB.out | apply below_alloc | apply pw_below_drewN | apply below_drew1 | refine below_set ?_ GE350.out | refine below_set ?_ GE351.out) | exact HB.out)⟩

-- NOT PRINTED: function 3 (jobshelllaw46_EditorValids)

end Go.Proofs.Ytlbbjdggebgabaa.P
end
