/- Texts of this claim, joined: Px2, Px1, Px10, Px11, G2, G4, G5. -/
import Derived.Test.YtlbbjdggebgabaaRUM3
import Derived.Test.YtlbbjdggebgabaaRUM4
import Derived.Test.YtlbbjdggebgabaaRUM7
import Derived.Test.YtlbbjdggebgabaaRUM9
section
namespace Go.Proofs.Ytlbbjdggebgabaa.P
open Go.RowKit Go.Proofs.YtlbbjdggebgabaaW.PrintWords Go.Proofs.YtlbbjdggebgabaaW.PrintLast Go.Proofs.YtlbbjdggebgabaaW.PrintMore
attribute [local go_sem] max2_int min2_int max_two min_two max_three min_three max_four min_four   -- for this text's walks alone
set_option linter.unusedVariables false
set_option linter.unusedSimpArgs false

mutual
def jobshelllaw46_few.j0 : Nat → Bool → ByteArray → Int → Int → List ByteArray → List (S23) → List (S23) → ByteArray → Int → Int → ByteArray → Option (Bool)
  | 0, _, _, _, _, _, _, _, _, _, _, _ => none
  | k + 1, x22, x102000, x102001, x102002, x102003, x102004, x102005, x102006, x102007, x102008, x102009 => if x22 = true then (some false) else (jobshelllaw46_few.l0 k (wrap64 ((wrap64 ((x102000.size : Int) + (x102009.size : Int))) + (x102006.size : Int))) 0 x102000 x102001 x102002 x102003 x102004 x102005 x102006 x102007 x102008 x102009)
def jobshelllaw46_few.l0 : Nat → Int → Int → ByteArray → Int → Int → List ByteArray → List (S23) → List (S23) → ByteArray → Int → Int → ByteArray → Option (Bool)
  | 0, _, _, _, _, _, _, _, _, _, _, _, _ => none
  | k + 1, x3, x4, x102000, x102001, x102002, x102003, x102004, x102005, x102006, x102007, x102008, x102009 => if x4 < (x102003.length : Int) then (if 0 ≤ x4 then (jobshelllaw46_few.l0 k (wrap64 (x3 + ((rdOf ByteArray.empty x102003 x4).size : Int))) (wrap64 (x4 + 1)) x102000 x102001 x102002 x102003 x102004 x102005 x102006 x102007 x102008 x102009) else (none)) else (jobshelllaw46_few.l1 k x3 0 x102000 x102001 x102002 x102003 x102004 x102005 x102006 x102007 x102008 x102009)
def jobshelllaw46_few.l1 : Nat → Int → Int → ByteArray → Int → Int → List ByteArray → List (S23) → List (S23) → ByteArray → Int → Int → ByteArray → Option (Bool)
  | 0, _, _, _, _, _, _, _, _, _, _, _, _ => none
  | k + 1, x3, x5, x102000, x102001, x102002, x102003, x102004, x102005, x102006, x102007, x102008, x102009 => if x5 < (x102004.length : Int) then (if 0 ≤ x5 then (jobshelllaw46_few.l1 k (wrap64 (x3 + (((rd_T23 x102004 x5).f0).size : Int))) (wrap64 (x5 + 1)) x102000 x102001 x102002 x102003 x102004 x102005 x102006 x102007 x102008 x102009) else (none)) else (jobshelllaw46_few.l2 k x3 0 x102000 x102001 x102002 x102003 x102004 x102005 x102006 x102007 x102008 x102009)
def jobshelllaw46_few.l2 : Nat → Int → Int → ByteArray → Int → Int → List ByteArray → List (S23) → List (S23) → ByteArray → Int → Int → ByteArray → Option (Bool)
  | 0, _, _, _, _, _, _, _, _, _, _, _, _ => none
  | k + 1, x3, x6, x102000, x102001, x102002, x102003, x102004, x102005, x102006, x102007, x102008, x102009 => if x6 < (x102005.length : Int) then (if 0 ≤ x6 then (jobshelllaw46_few.l2 k (wrap64 (x3 + (((rd_T23 x102005 x6).f0).size : Int))) (wrap64 (x6 + 1)) x102000 x102001 x102002 x102003 x102004 x102005 x102006 x102007 x102008 x102009) else (none)) else (some (decide (x3 ≤ 30000)))
end
def jobshelllaw46_few.f (k : Nat) (a0_0 : ByteArray) (a0_1 : Int) (a0_2 : Int) (l0_3 : List ByteArray) (l0_4 : List (S23)) (l0_5 : List (S23)) (a0_6 : ByteArray) (a0_7 : Int) (a0_8 : Int) (a0_9 : ByteArray) : Option (Bool) := if (l0_3.length : Int) > 70 then (jobshelllaw46_few.j0 k true a0_0 a0_1 a0_2 l0_3 l0_4 l0_5 a0_6 a0_7 a0_8 a0_9) else (if (l0_4.length : Int) > 70 then (jobshelllaw46_few.j0 k true a0_0 a0_1 a0_2 l0_3 l0_4 l0_5 a0_6 a0_7 a0_8 a0_9) else (jobshelllaw46_few.j0 k (decide ((l0_5.length : Int) > 70)) a0_0 a0_1 a0_2 l0_3 l0_4 l0_5 a0_6 a0_7 a0_8 a0_9))
set_option maxHeartbeats 8000000 in
set_option maxRecDepth 100000 in
theorem jobshelllaw46_few.calls (k : Nat) (a0_0 : ByteArray) (a0_1 : Int) (a0_2 : Int) (A0_3 : Option Addr) (c0_3 : Nat) (l0_3 : List ByteArray) (A0_4 : Option Addr) (c0_4 : Nat) (l0_4 : List (S23)) (A0_5 : Option Addr) (c0_5 : Nat) (l0_5 : List (S23)) (a0_6 : ByteArray) (a0_7 : Int) (a0_8 : Int) (a0_9 : ByteArray) (r : Bool) (w : World) (hr0_3 : Kd.C Kd.string w A0_3 l0_3.length l0_3) (hc0_3 : l0_3.length ≤ c0_3) (hr0_4 : Kd.C k23 w A0_4 l0_4.length l0_4) (hc0_4 : l0_4.length ≤ c0_4) (hr0_5 : Kd.C k23 w A0_5 l0_5.length l0_5) (hc0_5 : l0_5.length ≤ c0_5) (h : jobshelllaw46_few.f k a0_0 a0_1 a0_2 l0_3 l0_4 l0_5 a0_6 a0_7 a0_8 a0_9 = some r) :
    Calls Try.prog 9 #[.agg #[.string a0_0, .int .i64 a0_1, .int .i64 a0_2, .slice A0_3 l0_3.length c0_3, .slice A0_4 l0_4.length c0_4, .slice A0_5 l0_5.length c0_5, .string a0_6, .int .i64 a0_7, .int .i64 a0_8, .string a0_9]] w fun e w' => e = .returned (.bool r) ∧ Below w.heap.size w w' := by
  have hu27 := Try.underlying27
  have HR0_3 := Aside0.mk hr0_3
  have HC0_3 := Aside0.mk hc0_3
  clear hr0_3 hc0_3
  have HR0_4 := Aside0.mk hr0_4
  have HC0_4 := Aside0.mk hc0_4
  clear hr0_4 hc0_4
  have HR0_5 := Aside0.mk hr0_5
  have HC0_5 := Aside0.mk hc0_5
  clear hr0_5 hc0_5
  have HB := Aside0.mk (Below.refl w.heap.size w)
  have H : (if (l0_3.length : Int) > 70 then (jobshelllaw46_few.j0 k true a0_0 a0_1 a0_2 l0_3 l0_4 l0_5 a0_6 a0_7 a0_8 a0_9) else (if (l0_4.length : Int) > 70 then (jobshelllaw46_few.j0 k true a0_0 a0_1 a0_2 l0_3 l0_4 l0_5 a0_6 a0_7 a0_8 a0_9) else (jobshelllaw46_few.j0 k (decide ((l0_5.length : Int) > 70)) a0_0 a0_1 a0_2 l0_3 l0_4 l0_5 a0_6 a0_7 a0_8 a0_9))) = some r := h
  clear h
  have HC2 := Aside0.mk H
  clear H
  go_enter Try.func9, Try.ntmps9
  go_upto_region 1 with (first | ((with_reducible refine gate_dst (N := 1) rfl ?_); (try (refine gate_guard (by rfl) ?_; dsimp only)); refine box_event ?hg (N := 1) ?hd (cs := #[.string a0_0, .int .i64 a0_1, .int .i64 a0_2, .slice A0_3 l0_3.length c0_3, .slice A0_4 l0_4.length c0_4, .slice A0_5 l0_5.length c0_5, .string a0_6, .int .i64 a0_7, .int .i64 a0_8, .string a0_9]) (t := 27) ?hr ?_; (case hd => rfl); (case hg => rfl); (case hr => first | (go_simp; done) | (go_simp; rfl)); intro gb101 hg w3 hbox hb; have n0_ := Aside0.mk (below_step (by repeat (first | (with_reducible first | exact HB.out | apply below_alloc | apply pw_below_drewN | apply below_drew1) | exact HB.out)) hb); have n1_ := Aside0.mk (hbox); have n2_ := Aside0.mk ((by rw [hg]; exact (below_size (by repeat (first | (with_reducible first | exact HB.out | apply below_alloc | apply pw_below_drewN | apply below_drew1) | exact HB.out))) : w.heap.size ≤ gb101)); have n3_ := Aside0.mk ((by rw [hg]; exact (below_size (by repeat (first | (with_reducible first | exact HB.out | apply below_alloc | apply pw_below_drewN | apply below_drew1) | exact HB.out))) : w.heap.size ≤ gb101)); clear HB; have HB := n0_; have BK101 := n1_; have GW101 := n2_; have GE101 := n3_; clear n0_ n1_ n2_ n3_; clear hb hbox hg))
  (try simp only [Act.put, List.setIfInBounds_toArray, List.set_cons_zero, List.set_cons_succ])
  go_cut [22] (fun v22 wc => ∃ (kq : Nat) (x22_1 : Bool), v22 = .bool x22_1 ∧ Aside0 (jobshelllaw46_few.j0 kq x22_1 a0_0 a0_1 a0_2 l0_3 l0_4 l0_5 a0_6 a0_7 a0_8 a0_9 = some r) ∧ Aside0 (kq ≤ k) ∧ Aside0 (wc.heap[gb101]? = some (.cells #[.string a0_0, .int .i64 a0_1, .int .i64 a0_2, (.slice A0_3 l0_3.length c0_3), (.slice A0_4 l0_4.length c0_4), (.slice A0_5 l0_5.length c0_5), .string a0_6, .int .i64 a0_7, .int .i64 a0_8, .string a0_9] 27 (0, 0))) ∧ Aside0 (Below w.heap.size w wc))
  case first =>
    have H := HC2.out
    clear HC2
    by_cases c4 : (l0_3.length : Int) > 70
    · rw [if_pos c4] at H
      have c4b0 : decide (70 < (l0_3.length : Int)) = true := decide_eq_true c4
      have c4b1 : decide (70 < l0_3.length) = true := decide_eq_true (by omega)
      clear c4
      (first | rw [c4b0] | (simp only [i64_w, i32_w]; rw [c4b0]) | skip)
      have H' := Aside0.mk H
      clear H
      have hcz5_0 : w3.cell? ⟨gb101, 0, none⟩ = some (.string a0_0) := (blk_cell BK101.out 0).trans rfl
      have hcz5_1 : w3.cell? ⟨gb101, 1, none⟩ = some (.int .i64 a0_1) := (blk_cell BK101.out 1).trans rfl
      have hcz5_2 : w3.cell? ⟨gb101, 2, none⟩ = some (.int .i64 a0_2) := (blk_cell BK101.out 2).trans rfl
      have hcz5_3 : w3.cell? ⟨gb101, 3, none⟩ = some (.slice A0_3 l0_3.length c0_3) := (blk_cell BK101.out 3).trans rfl
      have hcz5_4 : w3.cell? ⟨gb101, 4, none⟩ = some (.slice A0_4 l0_4.length c0_4) := (blk_cell BK101.out 4).trans rfl
      have hcz5_5 : w3.cell? ⟨gb101, 5, none⟩ = some (.slice A0_5 l0_5.length c0_5) := (blk_cell BK101.out 5).trans rfl
      have hcz5_6 : w3.cell? ⟨gb101, 6, none⟩ = some (.string a0_6) := (blk_cell BK101.out 6).trans rfl
      have hcz5_7 : w3.cell? ⟨gb101, 7, none⟩ = some (.int .i64 a0_7) := (blk_cell BK101.out 7).trans rfl
      have hcz5_8 : w3.cell? ⟨gb101, 8, none⟩ = some (.int .i64 a0_8) := (blk_cell BK101.out 8).trans rfl
      have hcz5_9 : w3.cell? ⟨gb101, 9, none⟩ = some (.string a0_9) := (blk_cell BK101.out 9).trans rfl
      have hfz5_0 := blk_frozen BK101.out 0
      have hfz5_1 := blk_frozen BK101.out 1
      have hfz5_2 := blk_frozen BK101.out 2
      have hfz5_3 := blk_frozen BK101.out 3
      have hfz5_4 := blk_frozen BK101.out 4
      have hfz5_5 := blk_frozen BK101.out 5
      have hfz5_6 := blk_frozen BK101.out 6
      have hfz5_7 := blk_frozen BK101.out 7
      have hfz5_8 := blk_frozen BK101.out 8
      have hfz5_9 := blk_frozen BK101.out 9
      go_wp2
      go_meet
      case rel => exact ⟨_, (true), (by first | rfl | (simp; done) | (simp [*]; done)), H', ⟨by first | omega | exact Nat.le_refl _⟩, ⟨by (with_reducible repeat (first | refine blk_drewN ?_ _ | refine blk_drew ?_ | refine blk_alloc ?_ _)); exact BK101.out⟩, ⟨by repeat (first | (with_reducible first | exact HB.out | apply below_alloc | apply pw_below_drewN | apply below_drew1 | refine below_set ?_ GE101.out) | exact HB.out)⟩⟩
    · rw [if_neg c4] at H
      have c4b0 : decide (70 < (l0_3.length : Int)) = false := decide_eq_false c4
      have c4b1 : decide (70 < l0_3.length) = false := decide_eq_false (by omega)
      clear c4
      (first | rw [c4b0] | (simp only [i64_w, i32_w]; rw [c4b0]) | skip)
      by_cases c6 : (l0_4.length : Int) > 70
      · rw [if_pos c6] at H
        have c6b0 : decide (70 < (l0_4.length : Int)) = true := decide_eq_true c6
        have c6b1 : decide (70 < l0_4.length) = true := decide_eq_true (by omega)
        clear c6
        have H' := Aside0.mk H
        clear H
        have hcz7_0 : w3.cell? ⟨gb101, 0, none⟩ = some (.string a0_0) := (blk_cell BK101.out 0).trans rfl
        have hcz7_1 : w3.cell? ⟨gb101, 1, none⟩ = some (.int .i64 a0_1) := (blk_cell BK101.out 1).trans rfl
        have hcz7_2 : w3.cell? ⟨gb101, 2, none⟩ = some (.int .i64 a0_2) := (blk_cell BK101.out 2).trans rfl
        have hcz7_3 : w3.cell? ⟨gb101, 3, none⟩ = some (.slice A0_3 l0_3.length c0_3) := (blk_cell BK101.out 3).trans rfl
        have hcz7_4 : w3.cell? ⟨gb101, 4, none⟩ = some (.slice A0_4 l0_4.length c0_4) := (blk_cell BK101.out 4).trans rfl
        have hcz7_5 : w3.cell? ⟨gb101, 5, none⟩ = some (.slice A0_5 l0_5.length c0_5) := (blk_cell BK101.out 5).trans rfl
        have hcz7_6 : w3.cell? ⟨gb101, 6, none⟩ = some (.string a0_6) := (blk_cell BK101.out 6).trans rfl
        have hcz7_7 : w3.cell? ⟨gb101, 7, none⟩ = some (.int .i64 a0_7) := (blk_cell BK101.out 7).trans rfl
        have hcz7_8 : w3.cell? ⟨gb101, 8, none⟩ = some (.int .i64 a0_8) := (blk_cell BK101.out 8).trans rfl
        have hcz7_9 : w3.cell? ⟨gb101, 9, none⟩ = some (.string a0_9) := (blk_cell BK101.out 9).trans rfl
        have hfz7_0 := blk_frozen BK101.out 0
        have hfz7_1 := blk_frozen BK101.out 1
        have hfz7_2 := blk_frozen BK101.out 2
        have hfz7_3 := blk_frozen BK101.out 3
        have hfz7_4 := blk_frozen BK101.out 4
        have hfz7_5 := blk_frozen BK101.out 5
        have hfz7_6 := blk_frozen BK101.out 6
        have hfz7_7 := blk_frozen BK101.out 7
        have hfz7_8 := blk_frozen BK101.out 8
        have hfz7_9 := blk_frozen BK101.out 9
        go_wp2
        go_meet
        case rel => exact ⟨_, (true), (by first | rfl | (simp; done) | (simp [*]; done)), H', ⟨by first | omega | exact Nat.le_refl _⟩, ⟨by (with_reducible repeat (first | refine blk_drewN ?_ _ | refine blk_drew ?_ | refine blk_alloc ?_ _)); exact BK101.out⟩, ⟨by repeat (first | (with_reducible first | exact HB.out | apply below_alloc | apply pw_below_drewN | apply below_drew1 | refine below_set ?_ GE101.out) | exact HB.out)⟩⟩
      · rw [if_neg c6] at H
        have c6b0 : decide (70 < (l0_4.length : Int)) = false := decide_eq_false c6
        have c6b1 : decide (70 < l0_4.length) = false := decide_eq_false (by omega)
        clear c6
        have H' := Aside0.mk H
        clear H
        have hcz8_0 : w3.cell? ⟨gb101, 0, none⟩ = some (.string a0_0) := (blk_cell BK101.out 0).trans rfl
        have hcz8_1 : w3.cell? ⟨gb101, 1, none⟩ = some (.int .i64 a0_1) := (blk_cell BK101.out 1).trans rfl
        have hcz8_2 : w3.cell? ⟨gb101, 2, none⟩ = some (.int .i64 a0_2) := (blk_cell BK101.out 2).trans rfl
        have hcz8_3 : w3.cell? ⟨gb101, 3, none⟩ = some (.slice A0_3 l0_3.length c0_3) := (blk_cell BK101.out 3).trans rfl
        have hcz8_4 : w3.cell? ⟨gb101, 4, none⟩ = some (.slice A0_4 l0_4.length c0_4) := (blk_cell BK101.out 4).trans rfl
        have hcz8_5 : w3.cell? ⟨gb101, 5, none⟩ = some (.slice A0_5 l0_5.length c0_5) := (blk_cell BK101.out 5).trans rfl
        have hcz8_6 : w3.cell? ⟨gb101, 6, none⟩ = some (.string a0_6) := (blk_cell BK101.out 6).trans rfl
        have hcz8_7 : w3.cell? ⟨gb101, 7, none⟩ = some (.int .i64 a0_7) := (blk_cell BK101.out 7).trans rfl
        have hcz8_8 : w3.cell? ⟨gb101, 8, none⟩ = some (.int .i64 a0_8) := (blk_cell BK101.out 8).trans rfl
        have hcz8_9 : w3.cell? ⟨gb101, 9, none⟩ = some (.string a0_9) := (blk_cell BK101.out 9).trans rfl
        have hfz8_0 := blk_frozen BK101.out 0
        have hfz8_1 := blk_frozen BK101.out 1
        have hfz8_2 := blk_frozen BK101.out 2
        have hfz8_3 := blk_frozen BK101.out 3
        have hfz8_4 := blk_frozen BK101.out 4
        have hfz8_5 := blk_frozen BK101.out 5
        have hfz8_6 := blk_frozen BK101.out 6
        have hfz8_7 := blk_frozen BK101.out 7
        have hfz8_8 := blk_frozen BK101.out 8
        have hfz8_9 := blk_frozen BK101.out 9
        go_wp2
        go_meet
        case rel => exact ⟨_, (decide ((l0_5.length : Int) > 70)), (by first | rfl | (simp; done) | (simp [*]; done)), H', ⟨by first | omega | exact Nat.le_refl _⟩, ⟨by (with_reducible repeat (first | refine blk_drewN ?_ _ | refine blk_drew ?_ | refine blk_alloc ?_ _)); exact BK101.out⟩, ⟨by repeat (first | (with_reducible first | exact HB.out | apply below_alloc | apply pw_below_drewN | apply below_drew1 | refine below_set ?_ GE101.out) | exact HB.out)⟩⟩
  case rest =>
    clear HC2
    try clear p2
    try clear c4
    try clear c4b0
    try clear c4b1
    try clear c6
    try clear c6b0
    try clear c6b1
    try clear hcz5_0
    try clear hcz5_1
    try clear hcz5_2
    try clear hcz5_3
    try clear hcz5_4
    try clear hcz5_5
    try clear hcz5_6
    try clear hcz5_7
    try clear hcz5_8
    try clear hcz5_9
    try clear hcz7_0
    try clear hcz7_1
    try clear hcz7_2
    try clear hcz7_3
    try clear hcz7_4
    try clear hcz7_5
    try clear hcz7_6
    try clear hcz7_7
    try clear hcz7_8
    try clear hcz7_9
    try clear hcz8_0
    try clear hcz8_1
    try clear hcz8_2
    try clear hcz8_3
    try clear hcz8_4
    try clear hcz8_5
    try clear hcz8_6
    try clear hcz8_7
    try clear hcz8_8
    try clear hcz8_9
    try clear hfz5_0
    try clear hfz5_1
    try clear hfz5_2
    try clear hfz5_3
    try clear hfz5_4
    try clear hfz5_5
    try clear hfz5_6
    try clear hfz5_7
    try clear hfz5_8
    try clear hfz5_9
    try clear hfz7_0
    try clear hfz7_1
    try clear hfz7_2
    try clear hfz7_3
    try clear hfz7_4
    try clear hfz7_5
    try clear hfz7_6
    try clear hfz7_7
    try clear hfz7_8
    try clear hfz7_9
    try clear hfz8_0
    try clear hfz8_1
    try clear hfz8_2
    try clear hfz8_3
    try clear hfz8_4
    try clear hfz8_5
    try clear hfz8_6
    try clear hfz8_7
    try clear hfz8_8
    try clear hfz8_9
    obtain ⟨kq, x22_1, rfl, HA, HJ1, BK101, HB⟩ := hcut
    cases kq with
    | zero => exact absurd HA.out (by simp [jobshelllaw46_few.j0])
    | succ kj1 =>
      have H := HA.out
      clear HA
      simp only [jobshelllaw46_few.j0] at H
      by_cases c9 : x22_1 = true
      · subst c9
        have H1 : (some false) = some r := by rw [if_pos rfl] at H; exact H
        clear H
        have H := H1
        clear H1
        obtain rfl := Option.some.inj H
        go_wp2
        go_ret
        exact ⟨by first | rfl | (simp [errW_none, errW_some] <;> rfl) | (simp [*, errW_none, errW_some] <;> rfl), by repeat (first | (with_reducible first | exact HB.out | apply below_alloc | apply pw_below_drewN | apply below_drew1 | refine below_set ?_ GE101.out) | exact HB.out)⟩
      · replace c9 := Bool.eq_false_iff.mpr c9
        subst c9
        have H1 : (jobshelllaw46_few.l0 kj1 (wrap64 ((wrap64 ((a0_0.size : Int) + (a0_9.size : Int))) + (a0_6.size : Int))) 0 a0_0 a0_1 a0_2 l0_3 l0_4 l0_5 a0_6 a0_7 a0_8 a0_9) = some r := by rw [if_neg (show ¬ (false = true) by decide)] at H; exact H
        clear H
        have H := H1
        clear H1
        have H' := Aside0.mk H
        clear H
        have hcz10_0 : wc.cell? ⟨gb101, 0, none⟩ = some (.string a0_0) := (blk_cell BK101.out 0).trans rfl
        have hcz10_1 : wc.cell? ⟨gb101, 1, none⟩ = some (.int .i64 a0_1) := (blk_cell BK101.out 1).trans rfl
        have hcz10_2 : wc.cell? ⟨gb101, 2, none⟩ = some (.int .i64 a0_2) := (blk_cell BK101.out 2).trans rfl
        have hcz10_3 : wc.cell? ⟨gb101, 3, none⟩ = some (.slice A0_3 l0_3.length c0_3) := (blk_cell BK101.out 3).trans rfl
        have hcz10_4 : wc.cell? ⟨gb101, 4, none⟩ = some (.slice A0_4 l0_4.length c0_4) := (blk_cell BK101.out 4).trans rfl
        have hcz10_5 : wc.cell? ⟨gb101, 5, none⟩ = some (.slice A0_5 l0_5.length c0_5) := (blk_cell BK101.out 5).trans rfl
        have hcz10_6 : wc.cell? ⟨gb101, 6, none⟩ = some (.string a0_6) := (blk_cell BK101.out 6).trans rfl
        have hcz10_7 : wc.cell? ⟨gb101, 7, none⟩ = some (.int .i64 a0_7) := (blk_cell BK101.out 7).trans rfl
        have hcz10_8 : wc.cell? ⟨gb101, 8, none⟩ = some (.int .i64 a0_8) := (blk_cell BK101.out 8).trans rfl
        have hcz10_9 : wc.cell? ⟨gb101, 9, none⟩ = some (.string a0_9) := (blk_cell BK101.out 9).trans rfl
        have hfz10_0 := blk_frozen BK101.out 0
        have hfz10_1 := blk_frozen BK101.out 1
        have hfz10_2 := blk_frozen BK101.out 2
        have hfz10_3 := blk_frozen BK101.out 3
        have hfz10_4 := blk_frozen BK101.out 4
        have hfz10_5 := blk_frozen BK101.out 5
        have hfz10_6 := blk_frozen BK101.out 6
        have hfz10_7 := blk_frozen BK101.out 7
        have hfz10_8 := blk_frozen BK101.out 8
        have hfz10_9 := blk_frozen BK101.out 9
        go_wp2
        go_loopg [3, 4] kj1 (fun kq v3 v4 w' => ∃ (x3_2 : Int) (x4_2 : Int), v3 = .int .i64 x3_2 ∧ v4 = .int .i64 x4_2 ∧ Aside0 (jobshelllaw46_few.l0 kq x3_2 x4_2 a0_0 a0_1 a0_2 l0_3 l0_4 l0_5 a0_6 a0_7 a0_8 a0_9 = some r) ∧ Aside0 (kq ≤ kj1) ∧ Aside0 (w'.heap[gb101]? = some (.cells #[.string a0_0, .int .i64 a0_1, .int .i64 a0_2, (.slice A0_3 l0_3.length c0_3), (.slice A0_4 l0_4.length c0_4), (.slice A0_5 l0_5.length c0_5), .string a0_6, .int .i64 a0_7, .int .i64 a0_8, .string a0_9] 27 (0, 0))) ∧ Aside0 (Below w.heap.size w w'))
        case atStart => exact ⟨(wrap64 ((wrap64 ((a0_0.size : Int) + (a0_9.size : Int))) + (a0_6.size : Int))), (0), (by first | rfl | (simp; done) | (simp [*]; done)), (by first | rfl | (simp; done) | (simp [*]; done)), H', ⟨Nat.le_refl _⟩, ⟨by (with_reducible repeat (first | refine blk_drewN ?_ _ | refine blk_drew ?_ | refine blk_alloc ?_ _)); exact BK101.out⟩, ⟨by repeat (first | (with_reducible first | exact HB.out | apply below_alloc | apply pw_below_drewN | apply below_drew1 | refine below_set ?_ GE101.out) | exact HB.out)⟩⟩
        case round =>
          clear H'
          try clear p2
          try clear c4
          try clear c4b0
          try clear c4b1
          try clear c6
          try clear c6b0
          try clear c6b1
          try clear p6
          try clear c9
          try clear hcz10_0
          try clear hcz10_1
          try clear hcz10_2
          try clear hcz10_3
          try clear hcz10_4
          try clear hcz10_5
          try clear hcz10_6
          try clear hcz10_7
          try clear hcz10_8
          try clear hcz10_9
          try clear hcz5_0
          try clear hcz5_1
          try clear hcz5_2
          try clear hcz5_3
          try clear hcz5_4
          try clear hcz5_5
          try clear hcz5_6
          try clear hcz5_7
          try clear hcz5_8
          try clear hcz5_9
          try clear hcz7_0
          try clear hcz7_1
          try clear hcz7_2
          try clear hcz7_3
          try clear hcz7_4
          try clear hcz7_5
          try clear hcz7_6
          try clear hcz7_7
          try clear hcz7_8
          try clear hcz7_9
          try clear hcz8_0
          try clear hcz8_1
          try clear hcz8_2
          try clear hcz8_3
          try clear hcz8_4
          try clear hcz8_5
          try clear hcz8_6
          try clear hcz8_7
          try clear hcz8_8
          try clear hcz8_9
          try clear hfz10_0
          try clear hfz10_1
          try clear hfz10_2
          try clear hfz10_3
          try clear hfz10_4
          try clear hfz10_5
          try clear hfz10_6
          try clear hfz10_7
          try clear hfz10_8
          try clear hfz10_9
          try clear hfz5_0
          try clear hfz5_1
          try clear hfz5_2
          try clear hfz5_3
          try clear hfz5_4
          try clear hfz5_5
          try clear hfz5_6
          try clear hfz5_7
          try clear hfz5_8
          try clear hfz5_9
          try clear hfz7_0
          try clear hfz7_1
          try clear hfz7_2
          try clear hfz7_3
          try clear hfz7_4
          try clear hfz7_5
          try clear hfz7_6
          try clear hfz7_7
          try clear hfz7_8
          try clear hfz7_9
          try clear hfz8_0
          try clear hfz8_1
          try clear hfz8_2
          try clear hfz8_3
          try clear hfz8_4
          try clear hfz8_5
          try clear hfz8_6
          try clear hfz8_7
          try clear hfz8_8
          try clear hfz8_9
          try clear p2
          obtain ⟨x3_2, x4_2, rfl, rfl, HA, HK2, BK101, HB⟩ := hrel
          cases gk with
          | zero => exact absurd HA.out (by simp [jobshelllaw46_few.l0])
          | succ k2 =>
            have H := HA.out
            clear HA
            simp only [jobshelllaw46_few.l0] at H
            by_cases c11 : x4_2 < (l0_3.length : Int)
            · rw [if_pos c11] at H
              have c11b0 : decide (x4_2 < (l0_3.length : Int)) = true := decide_eq_true c11
              clear c11
              by_cases c12 : 0 ≤ x4_2
              · rw [if_pos c12] at H
                have c12b0 : decide (0 ≤ x4_2) = true := decide_eq_true c12
                clear c12
                have H' := Aside0.mk H
                clear H
                have hcz13_0 : wr.cell? ⟨gb101, 0, none⟩ = some (.string a0_0) := (blk_cell BK101.out 0).trans rfl
                have hcz13_1 : wr.cell? ⟨gb101, 1, none⟩ = some (.int .i64 a0_1) := (blk_cell BK101.out 1).trans rfl
                have hcz13_2 : wr.cell? ⟨gb101, 2, none⟩ = some (.int .i64 a0_2) := (blk_cell BK101.out 2).trans rfl
                have hcz13_3 : wr.cell? ⟨gb101, 3, none⟩ = some (.slice A0_3 l0_3.length c0_3) := (blk_cell BK101.out 3).trans rfl
                have hcz13_4 : wr.cell? ⟨gb101, 4, none⟩ = some (.slice A0_4 l0_4.length c0_4) := (blk_cell BK101.out 4).trans rfl
                have hcz13_5 : wr.cell? ⟨gb101, 5, none⟩ = some (.slice A0_5 l0_5.length c0_5) := (blk_cell BK101.out 5).trans rfl
                have hcz13_6 : wr.cell? ⟨gb101, 6, none⟩ = some (.string a0_6) := (blk_cell BK101.out 6).trans rfl
                have hcz13_7 : wr.cell? ⟨gb101, 7, none⟩ = some (.int .i64 a0_7) := (blk_cell BK101.out 7).trans rfl
                have hcz13_8 : wr.cell? ⟨gb101, 8, none⟩ = some (.int .i64 a0_8) := (blk_cell BK101.out 8).trans rfl
                have hcz13_9 : wr.cell? ⟨gb101, 9, none⟩ = some (.string a0_9) := (blk_cell BK101.out 9).trans rfl
                have hfz13_0 := blk_frozen BK101.out 0
                have hfz13_1 := blk_frozen BK101.out 1
                have hfz13_2 := blk_frozen BK101.out 2
                have hfz13_3 := blk_frozen BK101.out 3
                have hfz13_4 := blk_frozen BK101.out 4
                have hfz13_5 := blk_frozen BK101.out 5
                have hfz13_6 := blk_frozen BK101.out 6
                have hfz13_7 := blk_frozen BK101.out 7
                have hfz13_8 := blk_frozen BK101.out 8
                have hfz13_9 := blk_frozen BK101.out 9
                have p102 : 0 ≤ (x4_2 : Int) := of_decide_eq_true (by first | (with_reducible assumption) | assumption)
                have q102 : x4_2 < (l0_3.length : Int) := of_decide_eq_true (by first | (with_reducible assumption) | assumption)
                obtain ⟨ad102, e102, hx102_0⟩ := Kd.at_string HR0_3.out x4_2 p102 q102
                cases e102
                replace hx102_0 := (HB.out.cell (World.block_lt_of_cell? w _ hx102_0)).trans hx102_0
                replace p102 := eq_true p102
                replace q102 := eq_true q102
                go_wp2
                go_roundg k2
                case measure => have := HJ1.out; have := HK2.out; omega
                case rel => exact ⟨(wrap64 (x3_2 + ((rdOf ByteArray.empty l0_3 x4_2).size : Int))), (wrap64 (x4_2 + 1)), (by first | rfl | (simp; done) | (simp [*]; done)), (by first | rfl | (simp; done) | (simp [*]; done)), H', ⟨by have := HJ1.out; have := HK2.out; omega⟩, ⟨by (with_reducible repeat (first | refine blk_drewN ?_ _ | refine blk_drew ?_ | refine blk_alloc ?_ _)); exact BK101.out⟩, ⟨by repeat (first | (with_reducible first | exact HB.out | apply below_alloc | apply pw_below_drewN | apply below_drew1 | refine below_set ?_ GE101.out) | exact HB.out)⟩⟩
              · rw [if_neg c12] at H
                exact absurd H (by simp)
            · rw [if_neg c11] at H
              have c11b0 : decide (x4_2 < (l0_3.length : Int)) = false := decide_eq_false c11
              clear c11
              have H' := Aside0.mk H
              clear H
              have hcz14_0 : wr.cell? ⟨gb101, 0, none⟩ = some (.string a0_0) := (blk_cell BK101.out 0).trans rfl
              have hcz14_1 : wr.cell? ⟨gb101, 1, none⟩ = some (.int .i64 a0_1) := (blk_cell BK101.out 1).trans rfl
              have hcz14_2 : wr.cell? ⟨gb101, 2, none⟩ = some (.int .i64 a0_2) := (blk_cell BK101.out 2).trans rfl
              have hcz14_3 : wr.cell? ⟨gb101, 3, none⟩ = some (.slice A0_3 l0_3.length c0_3) := (blk_cell BK101.out 3).trans rfl
              have hcz14_4 : wr.cell? ⟨gb101, 4, none⟩ = some (.slice A0_4 l0_4.length c0_4) := (blk_cell BK101.out 4).trans rfl
              have hcz14_5 : wr.cell? ⟨gb101, 5, none⟩ = some (.slice A0_5 l0_5.length c0_5) := (blk_cell BK101.out 5).trans rfl
              have hcz14_6 : wr.cell? ⟨gb101, 6, none⟩ = some (.string a0_6) := (blk_cell BK101.out 6).trans rfl
              have hcz14_7 : wr.cell? ⟨gb101, 7, none⟩ = some (.int .i64 a0_7) := (blk_cell BK101.out 7).trans rfl
              have hcz14_8 : wr.cell? ⟨gb101, 8, none⟩ = some (.int .i64 a0_8) := (blk_cell BK101.out 8).trans rfl
              have hcz14_9 : wr.cell? ⟨gb101, 9, none⟩ = some (.string a0_9) := (blk_cell BK101.out 9).trans rfl
              have hfz14_0 := blk_frozen BK101.out 0
              have hfz14_1 := blk_frozen BK101.out 1
              have hfz14_2 := blk_frozen BK101.out 2
              have hfz14_3 := blk_frozen BK101.out 3
              have hfz14_4 := blk_frozen BK101.out 4
              have hfz14_5 := blk_frozen BK101.out 5
              have hfz14_6 := blk_frozen BK101.out 6
              have hfz14_7 := blk_frozen BK101.out 7
              have hfz14_8 := blk_frozen BK101.out 8
              have hfz14_9 := blk_frozen BK101.out 9
              go_wp2
              go_loopg [3, 5] k2 (fun kq v3 v5 w' => ∃ (x3_3 : Int) (x5_3 : Int), v3 = .int .i64 x3_3 ∧ v5 = .int .i64 x5_3 ∧ Aside0 (jobshelllaw46_few.l1 kq x3_3 x5_3 a0_0 a0_1 a0_2 l0_3 l0_4 l0_5 a0_6 a0_7 a0_8 a0_9 = some r) ∧ Aside0 (kq ≤ k2) ∧ Aside0 (w'.heap[gb101]? = some (.cells #[.string a0_0, .int .i64 a0_1, .int .i64 a0_2, (.slice A0_3 l0_3.length c0_3), (.slice A0_4 l0_4.length c0_4), (.slice A0_5 l0_5.length c0_5), .string a0_6, .int .i64 a0_7, .int .i64 a0_8, .string a0_9] 27 (0, 0))) ∧ Aside0 (Below w.heap.size w w'))
              case atStart => exact ⟨(x3_2), (0), (by first | rfl | (simp; done) | (simp [*]; done)), (by first | rfl | (simp; done) | (simp [*]; done)), H', ⟨Nat.le_refl _⟩, ⟨by (with_reducible repeat (first | refine blk_drewN ?_ _ | refine blk_drew ?_ | refine blk_alloc ?_ _)); exact BK101.out⟩, ⟨by repeat (first | (with_reducible first | exact HB.out | apply below_alloc | apply pw_below_drewN | apply below_drew1 | refine below_set ?_ GE101.out) | exact HB.out)⟩⟩
              case round =>
                clear H'
                try clear c1
                try clear p1
                try clear q1
                try clear hx1
                try clear p2
                try clear c4
                try clear c4b0
                try clear c4b1
                try clear c6
                try clear c6b0
                try clear c6b1
                try clear p6
                try clear c9
                try clear p10
                try clear q10
                try clear hx10
                try clear c11
                try clear c11b0
                try clear c12
                try clear c12b0
                try clear hcz10_0
                try clear hcz10_1
                try clear hcz10_2
                try clear hcz10_3
                try clear hcz10_4
                try clear hcz10_5
                try clear hcz10_6
                try clear hcz10_7
                try clear hcz10_8
                try clear hcz10_9
                try clear hcz13_0
                try clear hcz13_1
                try clear hcz13_2
                try clear hcz13_3
                try clear hcz13_4
                try clear hcz13_5
                try clear hcz13_6
                try clear hcz13_7
                try clear hcz13_8
                try clear hcz13_9
                try clear hcz14_0
                try clear hcz14_1
                try clear hcz14_2
                try clear hcz14_3
                try clear hcz14_4
                try clear hcz14_5
                try clear hcz14_6
                try clear hcz14_7
                try clear hcz14_8
                try clear hcz14_9
                try clear hcz5_0
                try clear hcz5_1
                try clear hcz5_2
                try clear hcz5_3
                try clear hcz5_4
                try clear hcz5_5
                try clear hcz5_6
                try clear hcz5_7
                try clear hcz5_8
                try clear hcz5_9
                try clear hcz7_0
                try clear hcz7_1
                try clear hcz7_2
                try clear hcz7_3
                try clear hcz7_4
                try clear hcz7_5
                try clear hcz7_6
                try clear hcz7_7
                try clear hcz7_8
                try clear hcz7_9
                try clear hcz8_0
                try clear hcz8_1
                try clear hcz8_2
                try clear hcz8_3
                try clear hcz8_4
                try clear hcz8_5
                try clear hcz8_6
                try clear hcz8_7
                try clear hcz8_8
                try clear hcz8_9
                try clear hfz10_0
                try clear hfz10_1
                try clear hfz10_2
                try clear hfz10_3
                try clear hfz10_4
                try clear hfz10_5
                try clear hfz10_6
                try clear hfz10_7
                try clear hfz10_8
                try clear hfz10_9
                try clear hfz13_0
                try clear hfz13_1
                try clear hfz13_2
                try clear hfz13_3
                try clear hfz13_4
                try clear hfz13_5
                try clear hfz13_6
                try clear hfz13_7
                try clear hfz13_8
                try clear hfz13_9
                try clear hfz14_0
                try clear hfz14_1
                try clear hfz14_2
                try clear hfz14_3
                try clear hfz14_4
                try clear hfz14_5
                try clear hfz14_6
                try clear hfz14_7
                try clear hfz14_8
                try clear hfz14_9
                try clear hfz5_0
                try clear hfz5_1
                try clear hfz5_2
                try clear hfz5_3
                try clear hfz5_4
                try clear hfz5_5
                try clear hfz5_6
                try clear hfz5_7
                try clear hfz5_8
                try clear hfz5_9
                try clear hfz7_0
                try clear hfz7_1
                try clear hfz7_2
                try clear hfz7_3
                try clear hfz7_4
                try clear hfz7_5
                try clear hfz7_6
                try clear hfz7_7
                try clear hfz7_8
                try clear hfz7_9
                try clear hfz8_0
                try clear hfz8_1
                try clear hfz8_2
                try clear hfz8_3
                try clear hfz8_4
                try clear hfz8_5
                try clear hfz8_6
                try clear hfz8_7
                try clear hfz8_8
                try clear hfz8_9
                try clear hx102_0
                try clear p102
                try clear p2
                try clear p6
                try clear q102
                obtain ⟨x3_3, x5_3, rfl, rfl, HA, HK3, BK101, HB⟩ := hrel
                cases gk with
                | zero => exact absurd HA.out (by simp [jobshelllaw46_few.l1])
                | succ k3 =>
                  have H := HA.out
                  clear HA
                  simp only [jobshelllaw46_few.l1] at H
                  by_cases c15 : x5_3 < (l0_4.length : Int)
                  · rw [if_pos c15] at H
                    have c15b0 : decide (x5_3 < (l0_4.length : Int)) = true := decide_eq_true c15
                    clear c15
                    by_cases c16 : 0 ≤ x5_3
                    · rw [if_pos c16] at H
                      have c16b0 : decide (0 ≤ x5_3) = true := decide_eq_true c16
                      clear c16
                      have H' := Aside0.mk H
                      clear H
                      have hcz17_0 : wr.cell? ⟨gb101, 0, none⟩ = some (.string a0_0) := (blk_cell BK101.out 0).trans rfl
                      have hcz17_1 : wr.cell? ⟨gb101, 1, none⟩ = some (.int .i64 a0_1) := (blk_cell BK101.out 1).trans rfl
                      have hcz17_2 : wr.cell? ⟨gb101, 2, none⟩ = some (.int .i64 a0_2) := (blk_cell BK101.out 2).trans rfl
                      have hcz17_3 : wr.cell? ⟨gb101, 3, none⟩ = some (.slice A0_3 l0_3.length c0_3) := (blk_cell BK101.out 3).trans rfl
                      have hcz17_4 : wr.cell? ⟨gb101, 4, none⟩ = some (.slice A0_4 l0_4.length c0_4) := (blk_cell BK101.out 4).trans rfl
                      have hcz17_5 : wr.cell? ⟨gb101, 5, none⟩ = some (.slice A0_5 l0_5.length c0_5) := (blk_cell BK101.out 5).trans rfl
                      have hcz17_6 : wr.cell? ⟨gb101, 6, none⟩ = some (.string a0_6) := (blk_cell BK101.out 6).trans rfl
                      have hcz17_7 : wr.cell? ⟨gb101, 7, none⟩ = some (.int .i64 a0_7) := (blk_cell BK101.out 7).trans rfl
                      have hcz17_8 : wr.cell? ⟨gb101, 8, none⟩ = some (.int .i64 a0_8) := (blk_cell BK101.out 8).trans rfl
                      have hcz17_9 : wr.cell? ⟨gb101, 9, none⟩ = some (.string a0_9) := (blk_cell BK101.out 9).trans rfl
                      have hfz17_0 := blk_frozen BK101.out 0
                      have hfz17_1 := blk_frozen BK101.out 1
                      have hfz17_2 := blk_frozen BK101.out 2
                      have hfz17_3 := blk_frozen BK101.out 3
                      have hfz17_4 := blk_frozen BK101.out 4
                      have hfz17_5 := blk_frozen BK101.out 5
                      have hfz17_6 := blk_frozen BK101.out 6
                      have hfz17_7 := blk_frozen BK101.out 7
                      have hfz17_8 := blk_frozen BK101.out 8
                      have hfz17_9 := blk_frozen BK101.out 9
                      have p103 : 0 ≤ (x5_3 : Int) := of_decide_eq_true (by first | (with_reducible assumption) | assumption)
                      have q103 : x5_3 < (l0_4.length : Int) := of_decide_eq_true (by first | (with_reducible assumption) | assumption)
                      obtain ⟨ad103, e103, hx103_0, hx103_1⟩ := at_T23 HR0_4.out x5_3 p103 q103
                      cases e103
                      replace hx103_0 := (HB.out.cell (World.block_lt_of_cell? w _ hx103_0)).trans hx103_0
                      replace hx103_1 := (HB.out.cell (World.block_lt_of_cell? w _ hx103_1)).trans hx103_1
                      replace p103 := eq_true p103
                      replace q103 := eq_true q103
                      go_wp2
                      go_roundg k3
                      case measure => have := HJ1.out; have := HK2.out; have := HK3.out; omega
                      case rel => exact ⟨(wrap64 (x3_3 + (((rd_T23 l0_4 x5_3).f0).size : Int))), (wrap64 (x5_3 + 1)), (by first | rfl | (simp; done) | (simp [*]; done)), (by first | rfl | (simp; done) | (simp [*]; done)), H', ⟨by have := HJ1.out; have := HK2.out; have := HK3.out; omega⟩, ⟨by (with_reducible repeat (first | refine blk_drewN ?_ _ | refine blk_drew ?_ | refine blk_alloc ?_ _)); exact BK101.out⟩, ⟨by repeat (first | (with_reducible first | exact HB.out | apply below_alloc | apply pw_below_drewN | apply below_drew1 | refine below_set ?_ GE101.out) | exact HB.out)⟩⟩
                    · rw [if_neg c16] at H
                      exact absurd H (by simp)
                  · rw [if_neg c15] at H
                    have c15b0 : decide (x5_3 < (l0_4.length : Int)) = false := decide_eq_false c15
                    clear c15
                    have H' := Aside0.mk H
                    clear H
                    have hcz18_0 : wr.cell? ⟨gb101, 0, none⟩ = some (.string a0_0) := (blk_cell BK101.out 0).trans rfl
                    have hcz18_1 : wr.cell? ⟨gb101, 1, none⟩ = some (.int .i64 a0_1) := (blk_cell BK101.out 1).trans rfl
                    have hcz18_2 : wr.cell? ⟨gb101, 2, none⟩ = some (.int .i64 a0_2) := (blk_cell BK101.out 2).trans rfl
                    have hcz18_3 : wr.cell? ⟨gb101, 3, none⟩ = some (.slice A0_3 l0_3.length c0_3) := (blk_cell BK101.out 3).trans rfl
                    have hcz18_4 : wr.cell? ⟨gb101, 4, none⟩ = some (.slice A0_4 l0_4.length c0_4) := (blk_cell BK101.out 4).trans rfl
                    have hcz18_5 : wr.cell? ⟨gb101, 5, none⟩ = some (.slice A0_5 l0_5.length c0_5) := (blk_cell BK101.out 5).trans rfl
                    have hcz18_6 : wr.cell? ⟨gb101, 6, none⟩ = some (.string a0_6) := (blk_cell BK101.out 6).trans rfl
                    have hcz18_7 : wr.cell? ⟨gb101, 7, none⟩ = some (.int .i64 a0_7) := (blk_cell BK101.out 7).trans rfl
                    have hcz18_8 : wr.cell? ⟨gb101, 8, none⟩ = some (.int .i64 a0_8) := (blk_cell BK101.out 8).trans rfl
                    have hcz18_9 : wr.cell? ⟨gb101, 9, none⟩ = some (.string a0_9) := (blk_cell BK101.out 9).trans rfl
                    have hfz18_0 := blk_frozen BK101.out 0
                    have hfz18_1 := blk_frozen BK101.out 1
                    have hfz18_2 := blk_frozen BK101.out 2
                    have hfz18_3 := blk_frozen BK101.out 3
                    have hfz18_4 := blk_frozen BK101.out 4
                    have hfz18_5 := blk_frozen BK101.out 5
                    have hfz18_6 := blk_frozen BK101.out 6
                    have hfz18_7 := blk_frozen BK101.out 7
                    have hfz18_8 := blk_frozen BK101.out 8
                    have hfz18_9 := blk_frozen BK101.out 9
                    go_wp2
                    go_loopg [3, 6] k3 (fun kq v3 v6 w' => ∃ (x3_4 : Int) (x6_4 : Int), v3 = .int .i64 x3_4 ∧ v6 = .int .i64 x6_4 ∧ Aside0 (jobshelllaw46_few.l2 kq x3_4 x6_4 a0_0 a0_1 a0_2 l0_3 l0_4 l0_5 a0_6 a0_7 a0_8 a0_9 = some r) ∧ Aside0 (kq ≤ k3) ∧ Aside0 (w'.heap[gb101]? = some (.cells #[.string a0_0, .int .i64 a0_1, .int .i64 a0_2, (.slice A0_3 l0_3.length c0_3), (.slice A0_4 l0_4.length c0_4), (.slice A0_5 l0_5.length c0_5), .string a0_6, .int .i64 a0_7, .int .i64 a0_8, .string a0_9] 27 (0, 0))) ∧ Aside0 (Below w.heap.size w w'))
                    case atStart => exact ⟨(x3_3), (0), (by first | rfl | (simp; done) | (simp [*]; done)), (by first | rfl | (simp; done) | (simp [*]; done)), H', ⟨Nat.le_refl _⟩, ⟨by (with_reducible repeat (first | refine blk_drewN ?_ _ | refine blk_drew ?_ | refine blk_alloc ?_ _)); exact BK101.out⟩, ⟨by repeat (first | (with_reducible first | exact HB.out | apply below_alloc | apply pw_below_drewN | apply below_drew1 | refine below_set ?_ GE101.out) | exact HB.out)⟩⟩
                    case round =>
                      clear H'
                      try clear c1
                      try clear p1
                      try clear q1
                      try clear hx1
                      try clear p2
                      try clear c4
                      try clear c4b0
                      try clear c4b1
                      try clear c6
                      try clear c6b0
                      try clear c6b1
                      try clear p6
                      try clear c9
                      try clear p10
                      try clear q10
                      try clear hx10
                      try clear c11
                      try clear c11b0
                      try clear c12
                      try clear c12b0
                      try clear c15
                      try clear c15b0
                      try clear c16
                      try clear c16b0
                      try clear hcz10_0
                      try clear hcz10_1
                      try clear hcz10_2
                      try clear hcz10_3
                      try clear hcz10_4
                      try clear hcz10_5
                      try clear hcz10_6
                      try clear hcz10_7
                      try clear hcz10_8
                      try clear hcz10_9
                      try clear hcz13_0
                      try clear hcz13_1
                      try clear hcz13_2
                      try clear hcz13_3
                      try clear hcz13_4
                      try clear hcz13_5
                      try clear hcz13_6
                      try clear hcz13_7
                      try clear hcz13_8
                      try clear hcz13_9
                      try clear hcz14_0
                      try clear hcz14_1
                      try clear hcz14_2
                      try clear hcz14_3
                      try clear hcz14_4
                      try clear hcz14_5
                      try clear hcz14_6
                      try clear hcz14_7
                      try clear hcz14_8
                      try clear hcz14_9
                      try clear hcz17_0
                      try clear hcz17_1
                      try clear hcz17_2
                      try clear hcz17_3
                      try clear hcz17_4
                      try clear hcz17_5
                      try clear hcz17_6
                      try clear hcz17_7
                      try clear hcz17_8
                      try clear hcz17_9
                      try clear hcz18_0
                      try clear hcz18_1
                      try clear hcz18_2
                      try clear hcz18_3
                      try clear hcz18_4
                      try clear hcz18_5
                      try clear hcz18_6
                      try clear hcz18_7
                      try clear hcz18_8
                      try clear hcz18_9
                      try clear hcz5_0
                      try clear hcz5_1
                      try clear hcz5_2
                      try clear hcz5_3
                      try clear hcz5_4
                      try clear hcz5_5
                      try clear hcz5_6
                      try clear hcz5_7
                      try clear hcz5_8
                      try clear hcz5_9
                      try clear hcz7_0
                      try clear hcz7_1
                      try clear hcz7_2
                      try clear hcz7_3
                      try clear hcz7_4
                      try clear hcz7_5
                      try clear hcz7_6
                      try clear hcz7_7
                      try clear hcz7_8
                      try clear hcz7_9
                      try clear hcz8_0
                      try clear hcz8_1
                      try clear hcz8_2
                      try clear hcz8_3
                      try clear hcz8_4
                      try clear hcz8_5
                      try clear hcz8_6
                      try clear hcz8_7
                      try clear hcz8_8
                      try clear hcz8_9
                      try clear hfz10_0
                      try clear hfz10_1
                      try clear hfz10_2
                      try clear hfz10_3
                      try clear hfz10_4
                      try clear hfz10_5
                      try clear hfz10_6
                      try clear hfz10_7
                      try clear hfz10_8
                      try clear hfz10_9
                      try clear hfz13_0
                      try clear hfz13_1
                      try clear hfz13_2
                      try clear hfz13_3
                      try clear hfz13_4
                      try clear hfz13_5
                      try clear hfz13_6
                      try clear hfz13_7
                      try clear hfz13_8
                      try clear hfz13_9
                      try clear hfz14_0
                      try clear hfz14_1
                      try clear hfz14_2
                      try clear hfz14_3
                      try clear hfz14_4
                      try clear hfz14_5
                      try clear hfz14_6
                      try clear hfz14_7
                      try clear hfz14_8
                      try clear hfz14_9
                      try clear hfz17_0
                      try clear hfz17_1
                      try clear hfz17_2
                      try clear hfz17_3
                      try clear hfz17_4
                      try clear hfz17_5
                      try clear hfz17_6
                      try clear hfz17_7
                      try clear hfz17_8
                      try clear hfz17_9
                      try clear hfz18_0
                      try clear hfz18_1
                      try clear hfz18_2
                      try clear hfz18_3
                      try clear hfz18_4
                      try clear hfz18_5
                      try clear hfz18_6
                      try clear hfz18_7
                      try clear hfz18_8
                      try clear hfz18_9
                      try clear hfz5_0
                      try clear hfz5_1
                      try clear hfz5_2
                      try clear hfz5_3
                      try clear hfz5_4
                      try clear hfz5_5
                      try clear hfz5_6
                      try clear hfz5_7
                      try clear hfz5_8
                      try clear hfz5_9
                      try clear hfz7_0
                      try clear hfz7_1
                      try clear hfz7_2
                      try clear hfz7_3
                      try clear hfz7_4
                      try clear hfz7_5
                      try clear hfz7_6
                      try clear hfz7_7
                      try clear hfz7_8
                      try clear hfz7_9
                      try clear hfz8_0
                      try clear hfz8_1
                      try clear hfz8_2
                      try clear hfz8_3
                      try clear hfz8_4
                      try clear hfz8_5
                      try clear hfz8_6
                      try clear hfz8_7
                      try clear hfz8_8
                      try clear hfz8_9
                      try clear hx102_0
                      try clear hx103_0
                      try clear hx103_1
                      try clear p1
                      try clear p10
                      try clear p102
                      try clear p103
                      try clear p2
                      try clear p6
                      try clear q1
                      try clear q10
                      try clear q102
                      try clear q103
                      obtain ⟨x3_4, x6_4, rfl, rfl, HA, HK4, BK101, HB⟩ := hrel
                      cases gk with
                      | zero => exact absurd HA.out (by simp [jobshelllaw46_few.l2])
                      | succ k4 =>
                        have H := HA.out
                        clear HA
                        simp only [jobshelllaw46_few.l2] at H
                        by_cases c19 : x6_4 < (l0_5.length : Int)
                        · rw [if_pos c19] at H
                          have c19b0 : decide (x6_4 < (l0_5.length : Int)) = true := decide_eq_true c19
                          clear c19
                          by_cases c20 : 0 ≤ x6_4
                          · rw [if_pos c20] at H
                            have c20b0 : decide (0 ≤ x6_4) = true := decide_eq_true c20
                            clear c20
                            have H' := Aside0.mk H
                            clear H
                            have hcz21_0 : wr.cell? ⟨gb101, 0, none⟩ = some (.string a0_0) := (blk_cell BK101.out 0).trans rfl
                            have hcz21_1 : wr.cell? ⟨gb101, 1, none⟩ = some (.int .i64 a0_1) := (blk_cell BK101.out 1).trans rfl
                            have hcz21_2 : wr.cell? ⟨gb101, 2, none⟩ = some (.int .i64 a0_2) := (blk_cell BK101.out 2).trans rfl
                            have hcz21_3 : wr.cell? ⟨gb101, 3, none⟩ = some (.slice A0_3 l0_3.length c0_3) := (blk_cell BK101.out 3).trans rfl
                            have hcz21_4 : wr.cell? ⟨gb101, 4, none⟩ = some (.slice A0_4 l0_4.length c0_4) := (blk_cell BK101.out 4).trans rfl
                            have hcz21_5 : wr.cell? ⟨gb101, 5, none⟩ = some (.slice A0_5 l0_5.length c0_5) := (blk_cell BK101.out 5).trans rfl
                            have hcz21_6 : wr.cell? ⟨gb101, 6, none⟩ = some (.string a0_6) := (blk_cell BK101.out 6).trans rfl
                            have hcz21_7 : wr.cell? ⟨gb101, 7, none⟩ = some (.int .i64 a0_7) := (blk_cell BK101.out 7).trans rfl
                            have hcz21_8 : wr.cell? ⟨gb101, 8, none⟩ = some (.int .i64 a0_8) := (blk_cell BK101.out 8).trans rfl
                            have hcz21_9 : wr.cell? ⟨gb101, 9, none⟩ = some (.string a0_9) := (blk_cell BK101.out 9).trans rfl
                            have hfz21_0 := blk_frozen BK101.out 0
                            have hfz21_1 := blk_frozen BK101.out 1
                            have hfz21_2 := blk_frozen BK101.out 2
                            have hfz21_3 := blk_frozen BK101.out 3
                            have hfz21_4 := blk_frozen BK101.out 4
                            have hfz21_5 := blk_frozen BK101.out 5
                            have hfz21_6 := blk_frozen BK101.out 6
                            have hfz21_7 := blk_frozen BK101.out 7
                            have hfz21_8 := blk_frozen BK101.out 8
                            have hfz21_9 := blk_frozen BK101.out 9
                            have p104 : 0 ≤ (x6_4 : Int) := of_decide_eq_true (by first | (with_reducible assumption) | assumption)
                            have q104 : x6_4 < (l0_5.length : Int) := of_decide_eq_true (by first | (with_reducible assumption) | assumption)
                            obtain ⟨ad104, e104, hx104_0, hx104_1⟩ := at_T23 HR0_5.out x6_4 p104 q104
                            cases e104
                            replace hx104_0 := (HB.out.cell (World.block_lt_of_cell? w _ hx104_0)).trans hx104_0
                            replace hx104_1 := (HB.out.cell (World.block_lt_of_cell? w _ hx104_1)).trans hx104_1
                            replace p104 := eq_true p104
                            replace q104 := eq_true q104
                            go_wp2
                            go_roundg k4
                            case measure => have := HJ1.out; have := HK2.out; have := HK3.out; have := HK4.out; omega
                            case rel => exact ⟨(wrap64 (x3_4 + (((rd_T23 l0_5 x6_4).f0).size : Int))), (wrap64 (x6_4 + 1)), (by first | rfl | (simp; done) | (simp [*]; done)), (by first | rfl | (simp; done) | (simp [*]; done)), H', ⟨by have := HJ1.out; have := HK2.out; have := HK3.out; have := HK4.out; omega⟩, ⟨by (with_reducible repeat (first | refine blk_drewN ?_ _ | refine blk_drew ?_ | refine blk_alloc ?_ _)); exact BK101.out⟩, ⟨by repeat (first | (with_reducible first | exact HB.out | apply below_alloc | apply pw_below_drewN | apply below_drew1 | refine below_set ?_ GE101.out) | exact HB.out)⟩⟩
                          · rw [if_neg c20] at H
                            exact absurd H (by simp)
                        · rw [if_neg c19] at H
                          have c19b0 : decide (x6_4 < (l0_5.length : Int)) = false := decide_eq_false c19
                          clear c19
                          obtain rfl := Option.some.inj H
                          have hcz22_0 : wr.cell? ⟨gb101, 0, none⟩ = some (.string a0_0) := (blk_cell BK101.out 0).trans rfl
                          have hcz22_1 : wr.cell? ⟨gb101, 1, none⟩ = some (.int .i64 a0_1) := (blk_cell BK101.out 1).trans rfl
                          have hcz22_2 : wr.cell? ⟨gb101, 2, none⟩ = some (.int .i64 a0_2) := (blk_cell BK101.out 2).trans rfl
                          have hcz22_3 : wr.cell? ⟨gb101, 3, none⟩ = some (.slice A0_3 l0_3.length c0_3) := (blk_cell BK101.out 3).trans rfl
                          have hcz22_4 : wr.cell? ⟨gb101, 4, none⟩ = some (.slice A0_4 l0_4.length c0_4) := (blk_cell BK101.out 4).trans rfl
                          have hcz22_5 : wr.cell? ⟨gb101, 5, none⟩ = some (.slice A0_5 l0_5.length c0_5) := (blk_cell BK101.out 5).trans rfl
                          have hcz22_6 : wr.cell? ⟨gb101, 6, none⟩ = some (.string a0_6) := (blk_cell BK101.out 6).trans rfl
                          have hcz22_7 : wr.cell? ⟨gb101, 7, none⟩ = some (.int .i64 a0_7) := (blk_cell BK101.out 7).trans rfl
                          have hcz22_8 : wr.cell? ⟨gb101, 8, none⟩ = some (.int .i64 a0_8) := (blk_cell BK101.out 8).trans rfl
                          have hcz22_9 : wr.cell? ⟨gb101, 9, none⟩ = some (.string a0_9) := (blk_cell BK101.out 9).trans rfl
                          have hfz22_0 := blk_frozen BK101.out 0
                          have hfz22_1 := blk_frozen BK101.out 1
                          have hfz22_2 := blk_frozen BK101.out 2
                          have hfz22_3 := blk_frozen BK101.out 3
                          have hfz22_4 := blk_frozen BK101.out 4
                          have hfz22_5 := blk_frozen BK101.out 5
                          have hfz22_6 := blk_frozen BK101.out 6
                          have hfz22_7 := blk_frozen BK101.out 7
                          have hfz22_8 := blk_frozen BK101.out 8
                          have hfz22_9 := blk_frozen BK101.out 9
                          go_wp2
                          go_ret
                          exact ⟨by first | rfl | (simp [errW_none, errW_some] <;> rfl) | (simp [*, errW_none, errW_some] <;> rfl), by repeat (first | (with_reducible first | exact HB.out | apply below_alloc | apply pw_below_drewN | apply below_drew1 | refine below_set ?_ GE101.out) | exact HB.out)⟩

end Go.Proofs.Ytlbbjdggebgabaa.P
end

section
namespace Go.Proofs.Ytlbbjdggebgabaa.P
open Go.RowKit Go.Proofs.YtlbbjdggebgabaaW.PrintWords Go.Proofs.YtlbbjdggebgabaaW.PrintLast Go.Proofs.YtlbbjdggebgabaaW.PrintMore
attribute [local go_sem] max2_int min2_int max_two min_two max_three min_three max_four min_four   -- for this text's walks alone
set_option linter.unusedVariables false
set_option linter.unusedSimpArgs false

theorem eqA23 (d : Nat) (w : World) (x0 y0 : ByteArray) (x1 y1 : Int) :
    (Op.equalIn (d + 2) 23 (.agg #[.string x0, .int .i64 x1]) (.agg #[.string y0, .int .i64 y1])).run Try.prog w = .ok (x0.toList == y0.toList && (x1 == y1)) w := by
  refine eqA_of Try.underlying23 (by kernel_rfl) ?_
  refine eqf_cons (by rfl) (by go_simp; rfl) (by go_simp; rfl) (by go_simp) ?_
  exact eqf_last (by rfl) (by go_simp; rfl) (by go_simp; rfl) (by go_simp)
end Go.Proofs.Ytlbbjdggebgabaa.P
end

section
namespace Go.Proofs.Ytlbbjdggebgabaa.P
open Go.RowKit Go.Proofs.YtlbbjdggebgabaaW.PrintWords Go.Proofs.YtlbbjdggebgabaaW.PrintLast Go.Proofs.YtlbbjdggebgabaaW.PrintMore
attribute [local go_sem] max2_int min2_int max_two min_two max_three min_three max_four min_four   -- for this text's walks alone
set_option linter.unusedVariables false
set_option linter.unusedSimpArgs false

attribute [local go_sem high] eqA23

-- NOT PRINTED: function 3 (jobshelllaw46_EditorValids)

def jobshelllaw46_lines.l0 : Nat → Int → Int → Int → List ByteArray → Option (Bool)
  | 0, _, _, _, _ => none
  | k + 1, x3, x4, x359000, x359001 => if x4 < (x359001.length : Int) then (if 0 ≤ x4 then (if (wrap64 (x3 + ((rdOf ByteArray.empty x359001 x4).size : Int))) > 20000 then (some false) else (jobshelllaw46_lines.l0 k (wrap64 (x3 + ((rdOf ByteArray.empty x359001 x4).size : Int))) (wrap64 (x4 + 1)) x359000 x359001)) else (none)) else (some true)
def jobshelllaw46_lines.f (k : Nat) (a0_0 : Int) (l0_1 : List ByteArray) : Option (Bool) := if (l0_1.length : Int) > 200 then (some false) else (jobshelllaw46_lines.l0 k 0 0 a0_0 l0_1)
set_option maxHeartbeats 8000000 in
set_option maxRecDepth 100000 in
theorem jobshelllaw46_lines.calls (k : Nat) (a0_0 : Int) (A0_1 : Option Addr) (c0_1 : Nat) (l0_1 : List ByteArray) (r : Bool) (w : World) (hr0_1 : Kd.C Kd.string w A0_1 l0_1.length l0_1) (hc0_1 : l0_1.length ≤ c0_1) (h : jobshelllaw46_lines.f k a0_0 l0_1 = some r) :
    Calls Try.prog 15 #[.agg #[.int .i64 a0_0, .slice A0_1 l0_1.length c0_1]] w fun e w' => e = .returned (.bool r) ∧ Below w.heap.size w w' := by
  have hu38 := Try.underlying38
  have HR0_1 := Aside0.mk hr0_1
  have HC0_1 := Aside0.mk hc0_1
  clear hr0_1 hc0_1
  have HB := Aside0.mk (Below.refl w.heap.size w)
  have H : (if (l0_1.length : Int) > 200 then (some false) else (jobshelllaw46_lines.l0 k 0 0 a0_0 l0_1)) = some r := h
  clear h
  by_cases c2 : (l0_1.length : Int) > 200
  · rw [if_pos c2] at H
    have c2b0 : decide (200 < (l0_1.length : Int)) = true := decide_eq_true c2
    have c2b1 : decide (200 < l0_1.length) = true := decide_eq_true (by omega)
    clear c2
    obtain rfl := Option.some.inj H
    go_enter Try.func15, Try.ntmps15
    go_wp2_with (first | ((with_reducible refine gate_dst (N := 1) rfl ?_); refine box_event ?hg (N := 1) ?hd (cs := #[.int .i64 a0_0, .slice A0_1 l0_1.length c0_1]) (t := 38) ?hr ?_; (case hd => rfl); (case hg => rfl); (case hr => first | (go_simp; done) | (go_simp; rfl)); intro gb358 hg w3 hbox hb; have n0_ := Aside0.mk (below_step (by repeat (first | (with_reducible first | exact HB.out | apply below_alloc | apply pw_below_drewN | apply below_drew1) | exact HB.out)) hb); have n1_ := Aside0.mk (hbox); have n2_ := Aside0.mk ((by rw [hg]; exact (below_size (by repeat (first | (with_reducible first | exact HB.out | apply below_alloc | apply pw_below_drewN | apply below_drew1) | exact HB.out))) : w.heap.size ≤ gb358)); have n3_ := Aside0.mk ((by rw [hg]; exact (below_size (by repeat (first | (with_reducible first | exact HB.out | apply below_alloc | apply pw_below_drewN | apply below_drew1) | exact HB.out))) : w.heap.size ≤ gb358)); clear HB; have HB := n0_; have BK358 := n1_; have GW358 := n2_; have GE358 := n3_; clear n0_ n1_ n2_ n3_; clear hb hbox hg; have hcz4_0 : w3.cell? ⟨gb358, 0, none⟩ = some (.int .i64 a0_0) := (blk_cell BK358.out 0).trans rfl; have hcz4_1 : w3.cell? ⟨gb358, 1, none⟩ = some (.slice A0_1 l0_1.length c0_1) := (blk_cell BK358.out 1).trans rfl; have hfz4_0 := blk_frozen BK358.out 0; have hfz4_1 := blk_frozen BK358.out 1))
    go_ret
    exact ⟨by first | rfl | (simp [errW_none, errW_some] <;> rfl) | (simp [*, errW_none, errW_some] <;> rfl), by repeat (first | (with_reducible first | exact HB.out | apply below_alloc | apply pw_below_drewN | apply below_drew1 | refine below_set ?_ GE358.out) | exact HB.out)⟩
  · rw [if_neg c2] at H
    have c2b0 : decide (200 < (l0_1.length : Int)) = false := decide_eq_false c2
    have c2b1 : decide (200 < l0_1.length) = false := decide_eq_false (by omega)
    clear c2
    have H' := Aside0.mk H
    clear H
    go_enter Try.func15, Try.ntmps15
    go_wp2_with (first | ((with_reducible refine gate_dst (N := 1) rfl ?_); refine box_event ?hg (N := 1) ?hd (cs := #[.int .i64 a0_0, .slice A0_1 l0_1.length c0_1]) (t := 38) ?hr ?_; (case hd => rfl); (case hg => rfl); (case hr => first | (go_simp; done) | (go_simp; rfl)); intro gb358 hg w5 hbox hb; have n0_ := Aside0.mk (below_step (by repeat (first | (with_reducible first | exact HB.out | apply below_alloc | apply pw_below_drewN | apply below_drew1) | exact HB.out)) hb); have n1_ := Aside0.mk (hbox); have n2_ := Aside0.mk ((by rw [hg]; exact (below_size (by repeat (first | (with_reducible first | exact HB.out | apply below_alloc | apply pw_below_drewN | apply below_drew1) | exact HB.out))) : w.heap.size ≤ gb358)); have n3_ := Aside0.mk ((by rw [hg]; exact (below_size (by repeat (first | (with_reducible first | exact HB.out | apply below_alloc | apply pw_below_drewN | apply below_drew1) | exact HB.out))) : w.heap.size ≤ gb358)); clear HB; have HB := n0_; have BK358 := n1_; have GW358 := n2_; have GE358 := n3_; clear n0_ n1_ n2_ n3_; clear hb hbox hg; have hcz6_0 : w5.cell? ⟨gb358, 0, none⟩ = some (.int .i64 a0_0) := (blk_cell BK358.out 0).trans rfl; have hcz6_1 : w5.cell? ⟨gb358, 1, none⟩ = some (.slice A0_1 l0_1.length c0_1) := (blk_cell BK358.out 1).trans rfl; have hfz6_0 := blk_frozen BK358.out 0; have hfz6_1 := blk_frozen BK358.out 1))
    go_loopg [3, 4] k (fun kq v3 v4 w' => ∃ (x3_1 : Int) (x4_1 : Int), v3 = .int .i64 x3_1 ∧ v4 = .int .i64 x4_1 ∧ Aside0 (jobshelllaw46_lines.l0 kq x3_1 x4_1 a0_0 l0_1 = some r) ∧ Aside0 (kq ≤ k) ∧ Aside0 (w'.heap[gb358]? = some (.cells #[.int .i64 a0_0, (.slice A0_1 l0_1.length c0_1)] 38 (0, 0))) ∧ Aside0 (Below w.heap.size w w'))
    case atStart => exact ⟨(0), (0), (by first | rfl | (simp; done) | (simp [*]; done)), (by first | rfl | (simp; done) | (simp [*]; done)), H', ⟨Nat.le_refl _⟩, ⟨by (with_reducible repeat (first | refine blk_drewN ?_ _ | refine blk_drew ?_ | refine blk_alloc ?_ _)); exact BK358.out⟩, ⟨by repeat (first | (with_reducible first | exact HB.out | apply below_alloc | apply pw_below_drewN | apply below_drew1 | refine below_set ?_ GE358.out) | exact HB.out)⟩⟩
    case round =>
      clear H'
      try clear c1
      try clear c2
      try clear c2b0
      try clear c2b1
      try clear p2
      try clear hcz4_0
      try clear hcz4_1
      try clear hcz6_0
      try clear hcz6_1
      try clear hfz4_0
      try clear hfz4_1
      try clear hfz6_0
      try clear hfz6_1
      obtain ⟨x3_1, x4_1, rfl, rfl, HA, HK1, BK358, HB⟩ := hrel
      cases gk with
      | zero => exact absurd HA.out (by simp [jobshelllaw46_lines.l0])
      | succ k1 =>
        have H := HA.out
        clear HA
        simp only [jobshelllaw46_lines.l0] at H
        by_cases c7 : x4_1 < (l0_1.length : Int)
        · rw [if_pos c7] at H
          have c7b0 : decide (x4_1 < (l0_1.length : Int)) = true := decide_eq_true c7
          clear c7
          by_cases c8 : 0 ≤ x4_1
          · rw [if_pos c8] at H
            have c8b0 : decide (0 ≤ x4_1) = true := decide_eq_true c8
            clear c8
            by_cases c9 : (wrap64 (x3_1 + ((rdOf ByteArray.empty l0_1 x4_1).size : Int))) > 20000
            · rw [if_pos c9] at H
              have c9b0 : decide (20000 < (wrap64 (x3_1 + ((rdOf ByteArray.empty l0_1 x4_1).size : Int)))) = true := decide_eq_true c9
              clear c9
              obtain rfl := Option.some.inj H
              have hcz10_0 : wr.cell? ⟨gb358, 0, none⟩ = some (.int .i64 a0_0) := (blk_cell BK358.out 0).trans rfl
              have hcz10_1 : wr.cell? ⟨gb358, 1, none⟩ = some (.slice A0_1 l0_1.length c0_1) := (blk_cell BK358.out 1).trans rfl
              have hfz10_0 := blk_frozen BK358.out 0
              have hfz10_1 := blk_frozen BK358.out 1
              have p359 : 0 ≤ (x4_1 : Int) := of_decide_eq_true (by first | (with_reducible assumption) | assumption)
              have q359 : x4_1 < (l0_1.length : Int) := of_decide_eq_true (by first | (with_reducible assumption) | assumption)
              obtain ⟨ad359, e359, hx359_0⟩ := Kd.at_string HR0_1.out x4_1 p359 q359
              cases e359
              replace hx359_0 := (HB.out.cell (World.block_lt_of_cell? w _ hx359_0)).trans hx359_0
              replace p359 := eq_true p359
              replace q359 := eq_true q359
              go_wp2
              go_ret
              exact ⟨by first | rfl | (simp [errW_none, errW_some] <;> rfl) | (simp [*, errW_none, errW_some] <;> rfl), by repeat (first | (with_reducible first | exact HB.out | apply below_alloc | apply pw_below_drewN | apply below_drew1 | refine below_set ?_ GE358.out) | exact HB.out)⟩
            · rw [if_neg c9] at H
              have c9b0 : decide (20000 < (wrap64 (x3_1 + ((rdOf ByteArray.empty l0_1 x4_1).size : Int)))) = false := decide_eq_false c9
              clear c9
              have H' := Aside0.mk H
              clear H
              have hcz11_0 : wr.cell? ⟨gb358, 0, none⟩ = some (.int .i64 a0_0) := (blk_cell BK358.out 0).trans rfl
              have hcz11_1 : wr.cell? ⟨gb358, 1, none⟩ = some (.slice A0_1 l0_1.length c0_1) := (blk_cell BK358.out 1).trans rfl
              have hfz11_0 := blk_frozen BK358.out 0
              have hfz11_1 := blk_frozen BK358.out 1
              have p359 : 0 ≤ (x4_1 : Int) := of_decide_eq_true (by first | (with_reducible assumption) | assumption)
              have q359 : x4_1 < (l0_1.length : Int) := of_decide_eq_true (by first | (with_reducible assumption) | assumption)
              obtain ⟨ad359, e359, hx359_0⟩ := Kd.at_string HR0_1.out x4_1 p359 q359
              cases e359
              replace hx359_0 := (HB.out.cell (World.block_lt_of_cell? w _ hx359_0)).trans hx359_0
              replace p359 := eq_true p359
              replace q359 := eq_true q359
              go_wp2
              go_roundg k1
              case measure => have := HK1.out; omega
              case rel => exact ⟨(wrap64 (x3_1 + ((rdOf ByteArray.empty l0_1 x4_1).size : Int))), (wrap64 (x4_1 + 1)), (by first | rfl | (simp; done) | (simp [*]; done)), (by first | rfl | (simp; done) | (simp [*]; done)), H', ⟨by have := HK1.out; omega⟩, ⟨by (with_reducible repeat (first | refine blk_drewN ?_ _ | refine blk_drew ?_ | refine blk_alloc ?_ _)); exact BK358.out⟩, ⟨by repeat (first | (with_reducible first | exact HB.out | apply below_alloc | apply pw_below_drewN | apply below_drew1 | refine below_set ?_ GE358.out) | exact HB.out)⟩⟩
          · rw [if_neg c8] at H
            exact absurd H (by simp)
        · rw [if_neg c7] at H
          have c7b0 : decide (x4_1 < (l0_1.length : Int)) = false := decide_eq_false c7
          clear c7
          obtain rfl := Option.some.inj H
          have hcz12_0 : wr.cell? ⟨gb358, 0, none⟩ = some (.int .i64 a0_0) := (blk_cell BK358.out 0).trans rfl
          have hcz12_1 : wr.cell? ⟨gb358, 1, none⟩ = some (.slice A0_1 l0_1.length c0_1) := (blk_cell BK358.out 1).trans rfl
          have hfz12_0 := blk_frozen BK358.out 0
          have hfz12_1 := blk_frozen BK358.out 1
          go_wp2
          go_ret
          exact ⟨by first | rfl | (simp [errW_none, errW_some] <;> rfl) | (simp [*, errW_none, errW_some] <;> rfl), by repeat (first | (with_reducible first | exact HB.out | apply below_alloc | apply pw_below_drewN | apply below_drew1 | refine below_set ?_ GE358.out) | exact HB.out)⟩

end Go.Proofs.Ytlbbjdggebgabaa.P
end

section
/- Plain facts: what Valid, the reference's Valid, few and lines tell. -/
namespace Go.Proofs.Ytlbbjdggebgabaa.P
open Go.RowKit Go.Proofs.YtlbbjdggebgabaaW.PrintWords Go.Proofs.YtlbbjdggebgabaaW.PrintLast Go.Proofs.YtlbbjdggebgabaaW.PrintMore
set_option linter.unusedVariables false
set_option linter.unusedSimpArgs false

def longB (l : List S23) : Bool := l.any fun s => decide ((s.f0.size : Int) > 4096)
def outB (l : List S23) : Bool := l.any fun s => decide (s.f1 < 0) || decide (s.f1 > (s.f0.size : Int))
def killL (l : List ByteArray) : Bool := l.any fun x => decide ((x.size : Int) > 4096)
theorem wrap_in {x : Int} (h0 : -9223372036854775808 ≤ x) (h1 : x ≤ 9223372036854775807) : wrap64 x = x := by unfold wrap64; omega
theorem drop_at {α : Type} (d : α) (l : List α) (i : Nat) (h : i < l.length) : l.drop i = l.getD i d :: l.drop (i + 1) := by
  rw [List.drop_eq_getElem_cons h]
  simp [List.getD, h]
theorem wrap_next (i : Nat) (h : i < 1000000000000000000) : wrap64 ((i : Int) + 1) = ((i + 1 : Nat) : Int) := by rw [wrap_in (by omega) (by omega)]; push_cast; rfl

theorem short_l0 (l : List ByteArray) (hl : l.length ≤ 1000000000000000) : ∀ n i k, l.length = i + n → n < k → jobshellref46_short.l0 k l (i : Int) = some (!killL (l.drop i))
  | 0, i, k + 1, h, _ => by
    rw [jobshellref46_short.l0, if_neg (by omega), List.drop_eq_nil_of_le (by omega)]
    rfl
  | n + 1, i, k + 1, h, hk => by
    have hd := drop_at ByteArray.empty l i (by omega)
    rw [jobshellref46_short.l0, if_pos (by omega), if_pos (by omega), wrap_next i (by omega), short_l0 l hl n (i + 1) k (by omega) (by omega), hd]
    have e : rdOf ByteArray.empty l (i : Int) = l.getD i ByteArray.empty := rfl
    rw [e]
    unfold killL
    rw [List.any_cons]
    by_cases hc : ((l.getD i ByteArray.empty).size : Int) > 4096
    · rw [if_pos hc, decide_eq_true hc]; rfl
    · rw [if_neg hc, decide_eq_false hc]; rfl
theorem short_f (l : List ByteArray) (k : Nat) (hl : l.length ≤ 1000000000000000) (hk : l.length < k) : jobshellref46_short.f k l = some (!killL l) := short_l0 l hl l.length 0 k (by omega) hk
theorem snaps3_l0 (l : List S23) (hl : l.length ≤ 1000000000000000) : ∀ n i k, l.length = i + n → n < k → jobshellref46_snaps.l0 k l 3 (i : Int) = some (!longB (l.drop i))
  | 0, i, k + 1, h, _ => by
    rw [jobshellref46_snaps.l0, if_neg (by omega), List.drop_eq_nil_of_le (by omega)]
    rfl
  | n + 1, i, k + 1, h, hk => by
    have hd := drop_at z23 l i (by omega)
    rw [jobshellref46_snaps.l0, if_pos (by omega), if_pos (by omega), wrap_next i (by omega), snaps3_l0 l hl n (i + 1) k (by omega) (by omega), hd]
    have e : rd_T23 l (i : Int) = l.getD i z23 := rfl
    rw [e]
    unfold longB jobshellref46_snap.f
    rw [List.any_cons, if_pos rfl, Option.bind_some]
    by_cases hc : ((l.getD i z23).f0.size : Int) > 4096
    · rw [decide_eq_true hc, decide_eq_false (by omega)]; rfl
    · rw [decide_eq_false hc, decide_eq_true (by omega)]; rfl
theorem snaps3_f (l : List S23) (k : Nat) (hl : l.length ≤ 1000000000000000) (hk : l.length < k) : jobshellref46_snaps.f k l 3 = some (!longB l) := snaps3_l0 l hl l.length 0 k (by omega) hk
theorem snap2_f (a : ByteArray) (b : Int) : jobshellref46_snap.f a b 2 = some (!outB [⟨a, b⟩]) := by
  unfold jobshellref46_snap.f outB
  rw [if_neg (by decide)]
  by_cases h0 : b ≥ 0
  · rw [if_pos h0]
    by_cases h1 : b ≤ (a.size : Int)
    · rw [decide_eq_true h1]; simp [show ¬ b < 0 by omega, show ¬ b > (a.size : Int) by omega]
    · rw [decide_eq_false h1]; simp [show ¬ b < 0 by omega, show b > (a.size : Int) by omega]
  · rw [if_neg h0]; simp [show b < 0 by omega]
theorem snaps2_l0 (l : List S23) (hl : l.length ≤ 1000000000000000) : ∀ n i k, l.length = i + n → n < k → jobshellref46_snaps.l0 k l 2 (i : Int) = some (!outB (l.drop i))
  | 0, i, k + 1, h, _ => by
    rw [jobshellref46_snaps.l0, if_neg (by omega), List.drop_eq_nil_of_le (by omega)]
    rfl
  | n + 1, i, k + 1, h, hk => by
    have hd := drop_at z23 l i (by omega)
    rw [jobshellref46_snaps.l0, if_pos (by omega), if_pos (by omega), wrap_next i (by omega), snaps2_l0 l hl n (i + 1) k (by omega) (by omega), hd]
    have e : rd_T23 l (i : Int) = l.getD i z23 := rfl
    rw [e, snap2_f, Option.bind_some]
    unfold outB
    simp only [List.any_cons, List.any_nil, Bool.or_false]
    cases (decide ((l.getD i z23).f1 < 0) || decide ((l.getD i z23).f1 > ((l.getD i z23).f0.size : Int))) <;> rfl
theorem snaps2_f (l : List S23) (k : Nat) (hl : l.length ≤ 1000000000000000) (hk : l.length < k) : jobshellref46_snaps.f k l 2 = some (!outB l) := snaps2_l0 l hl l.length 0 k (by omega) hk

def tooLong (s : St) : Bool := longB [⟨s.text, s.pos⟩] || longB s.undo || longB s.redo || decide ((s.saved.size : Int) > 4096) || decide ((s.keys.size : Int) > 16) || killL s.kills
def offRange (s : St) : Bool := outB [⟨s.text, s.pos⟩] || outB s.undo || outB s.redo || decide (s.mark < 0) || decide (s.mark > (s.text.size : Int)) || decide (s.last < 0) || decide (s.last > 28) || decide (s.line < 0) || decide (s.line > 128)
def tooMany (s : St) : Bool := decide ((s.kills.length : Int) > 16) || decide ((s.undo.length : Int) > 64) || decide ((s.redo.length : Int) > 64)
def validI (s : St) : Int := if tooLong s then 3 else if offRange s then 2 else if tooMany s then 4 else 0

theorem rvalid_j1 (k : Nat) (x : Bool) (s : St) : jobshellref46_Valid.j1 (k + 1) x s.text s.pos s.mark s.kills s.undo s.redo s.keys s.last s.line s.saved = some (if x then 2 else if tooMany s then 4 else 0) := by
  rw [jobshellref46_Valid.j1]
  cases x
  · simp only [Bool.false_eq_true, if_false]
    unfold tooMany
    by_cases h1 : (s.kills.length : Int) > 16
    · rw [if_pos h1, decide_eq_true h1]; rfl
    · by_cases h2 : (s.undo.length : Int) > 64
      · rw [if_neg h1, if_pos h2, decide_eq_false h1, decide_eq_true h2]; rfl
      · by_cases h3 : (s.redo.length : Int) > 64
        · rw [if_neg h1, if_neg h2, if_pos h3, decide_eq_false h1, decide_eq_false h2, decide_eq_true h3]; rfl
        · rw [if_neg h1, if_neg h2, if_neg h3, decide_eq_false h1, decide_eq_false h2, decide_eq_false h3]; rfl
  · rfl
theorem rvalid_j0 (s : St) (k : Nat) (b : Bool) (hu : s.undo.length ≤ 1000000000000000) (hr : s.redo.length ≤ 1000000000000000) (h1 : s.undo.length < k) (h2 : s.redo.length < k) (h3 : 1 < k) :
    jobshellref46_Valid.j0 (k + 1) b s.text s.pos s.mark s.kills s.undo s.redo s.keys s.last s.line s.saved = some (if b then 3 else if offRange s then 2 else if tooMany s then 4 else 0) := by
  obtain ⟨k, rfl⟩ : ∃ m, k = m + 1 := ⟨k - 1, by omega⟩
  rw [jobshellref46_Valid.j0]
  cases b
  · rw [snap2_f, snaps2_f s.undo (k + 1) hu h1, snaps2_f s.redo (k + 1) hr h2]
    simp only [Bool.false_eq_true, if_false, Option.bind_some, rvalid_j1]
    unfold offRange
    cases outB [⟨s.text, s.pos⟩]
    · cases outB s.undo
      · cases outB s.redo
        · by_cases g1 : s.mark < 0
          · simp [g1]
          · by_cases g2 : s.mark > (s.text.size : Int)
            · simp [g1, g2]
            · by_cases g3 : s.last < 0
              · simp [g1, g2, g3]
              · by_cases g4 : s.last > 28
                · simp [g1, g2, g3, g4]
                · by_cases g5 : s.line < 0
                  · simp [g1, g2, g3, g4, g5]
                  · simp [g1, g2, g3, g4, g5]
        · simp
      · simp
    · simp
  · rfl
theorem rvalid_f (s : St) (k : Nat) (h0 : s.kills.length ≤ 1000000000000000) (hu : s.undo.length ≤ 1000000000000000) (hr : s.redo.length ≤ 1000000000000000) (hk : s.kills.length + s.undo.length + s.redo.length + 4 ≤ k) :
    jobshellref46_Valid.f k s.text s.pos s.mark s.kills s.undo s.redo s.keys s.last s.line s.saved = some (validI s) := by
  obtain ⟨m, rfl⟩ : ∃ m, k = m + 1 := ⟨k - 1, by omega⟩
  have hj : ∀ b, jobshellref46_Valid.j0 (m + 1) b s.text s.pos s.mark s.kills s.undo s.redo s.keys s.last s.line s.saved = some (if b then 3 else if offRange s then 2 else if tooMany s then 4 else 0) := fun b => rvalid_j0 s m b hu hr (by omega) (by omega) (by omega)
  have hs3 : jobshellref46_snap.f s.text s.pos 3 = some (!longB [⟨s.text, s.pos⟩]) := by
    unfold jobshellref46_snap.f longB
    rw [if_pos rfl]
    by_cases hc : (s.text.size : Int) > 4096
    · rw [decide_eq_false (by omega)]; simp only [List.any_cons, List.any_nil, Bool.or_false]; rw [decide_eq_true hc]; rfl
    · rw [decide_eq_true (by omega)]; simp only [List.any_cons, List.any_nil, Bool.or_false]; rw [decide_eq_false hc]; rfl
  unfold jobshellref46_Valid.f
  rw [hs3, short_f s.kills _ h0 (by omega), snaps3_f s.undo _ hu (by omega), snaps3_f s.redo _ hr (by omega)]
  simp only [Option.bind_some, hj]
  unfold validI tooLong
  cases longB [⟨s.text, s.pos⟩]
  · cases killL s.kills
    · cases longB s.undo
      · cases longB s.redo
        · by_cases g1 : (s.saved.size : Int) > 4096
          · simp [g1]
          · by_cases g2 : (s.keys.size : Int) > 16
            · simp [g1, g2]
            · simp [g1, g2]
        · by_cases g1 : (s.saved.size : Int) > 4096
          · simp [g1]
          · simp [g1]
      · by_cases g1 : (s.saved.size : Int) > 4096
        · simp [g1]
        · simp [g1]
    · by_cases g1 : (s.saved.size : Int) > 4096
      · simp [g1]
      · simp [g1]
  · simp

def sumK (l : List ByteArray) : Int := (l.map fun x => (x.size : Int)).sum
def sumN (l : List S23) : Int := (l.map fun s => (s.f0.size : Int)).sum
theorem sumK_nn : ∀ l, 0 ≤ sumK l
  | [] => by decide
  | x :: l => by have := sumK_nn l; unfold sumK at *; rw [List.map_cons, List.sum_cons]; omega
theorem sumN_nn : ∀ l, 0 ≤ sumN l
  | [] => by decide
  | x :: l => by have := sumN_nn l; unfold sumN at *; rw [List.map_cons, List.sum_cons]; omega
theorem sumK_cons (x : ByteArray) (l : List ByteArray) : sumK (x :: l) = (x.size : Int) + sumK l := by unfold sumK; rw [List.map_cons, List.sum_cons]
theorem sumN_cons (x : S23) (l : List S23) : sumN (x :: l) = (x.f0.size : Int) + sumN l := by unfold sumN; rw [List.map_cons, List.sum_cons]
theorem sumK_le (B : Int) : ∀ l : List ByteArray, (∀ x ∈ l, (x.size : Int) ≤ B) → sumK l ≤ B * (l.length : Int)
  | [], _ => by simp [sumK]
  | y :: l, h => by
    have h1 := sumK_le B l (fun x hx => h x (List.mem_cons_of_mem _ hx))
    have h2 := h y List.mem_cons_self
    rw [sumK_cons, List.length_cons]
    push_cast
    rw [Int.mul_add, Int.mul_one]
    omega
theorem sumN_le (B : Int) : ∀ l : List S23, (∀ x ∈ l, (x.f0.size : Int) ≤ B) → sumN l ≤ B * (l.length : Int)
  | [], _ => by simp [sumN]
  | y :: l, h => by
    have h1 := sumN_le B l (fun x hx => h x (List.mem_cons_of_mem _ hx))
    have h2 := h y List.mem_cons_self
    rw [sumN_cons, List.length_cons]
    push_cast
    rw [Int.mul_add, Int.mul_one]
    omega
theorem few_l2 (s : St) (hl : s.redo.length ≤ 1000) : ∀ n i k (a : Int), s.redo.length = i + n → n < k → 0 ≤ a → a + sumN (s.redo.drop i) ≤ 1000000000000000000 →
    jobshelllaw46_few.l2 k a (i : Int) s.text s.pos s.mark s.kills s.undo s.redo s.keys s.last s.line s.saved = some (decide (a + sumN (s.redo.drop i) ≤ 30000))
  | 0, i, k + 1, a, h, _, _, _ => by
    rw [jobshelllaw46_few.l2, if_neg (by omega), List.drop_eq_nil_of_le (by omega)]
    have : a + sumN [] = a := by unfold sumN; simp
    rw [this]
  | n + 1, i, k + 1, a, h, hk, h0, h1 => by
    have hd := drop_at z23 s.redo i (by omega)
    rw [hd, sumN_cons] at h1 ⊢
    have hn := sumN_nn (s.redo.drop (i + 1))
    have e : rd_T23 s.redo (i : Int) = s.redo.getD i z23 := rfl
    rw [jobshelllaw46_few.l2, if_pos (by omega), if_pos (by omega), wrap_next i (by omega), e, wrap_in (by omega) (by omega), few_l2 s hl n (i + 1) k _ (by omega) (by omega) (by omega) (by omega), Int.add_assoc]
theorem few_l1 (s : St) (hl : s.undo.length ≤ 1000) (hl2 : s.redo.length ≤ 1000) : ∀ n i k (a : Int), s.undo.length = i + n → n + s.redo.length + 1 < k → 0 ≤ a → a + sumN (s.undo.drop i) + sumN s.redo ≤ 1000000000000000000 →
    jobshelllaw46_few.l1 k a (i : Int) s.text s.pos s.mark s.kills s.undo s.redo s.keys s.last s.line s.saved = some (decide (a + sumN (s.undo.drop i) + sumN s.redo ≤ 30000))
  | 0, i, k + 1, a, h, hk, h0, h1 => by
    rw [List.drop_eq_nil_of_le (by omega)] at h1 ⊢
    have e : a + sumN [] = a := by unfold sumN; simp
    rw [e] at h1 ⊢
    have h2 := few_l2 s hl2 s.redo.length 0 k a (by omega) (by omega) h0 (by rw [List.drop_zero]; exact h1)
    rw [List.drop_zero] at h2
    rw [jobshelllaw46_few.l1, if_neg (by omega)]
    exact h2
  | n + 1, i, k + 1, a, h, hk, h0, h1 => by
    have hd := drop_at z23 s.undo i (by omega)
    rw [hd, sumN_cons] at h1 ⊢
    have hn := sumN_nn (s.undo.drop (i + 1))
    have hn2 := sumN_nn s.redo
    have e : rd_T23 s.undo (i : Int) = s.undo.getD i z23 := rfl
    rw [jobshelllaw46_few.l1, if_pos (by omega), if_pos (by omega), wrap_next i (by omega), e, wrap_in (by omega) (by omega), few_l1 s hl hl2 n (i + 1) k _ (by omega) (by omega) (by omega) (by omega), Int.add_assoc a]
theorem few_l0 (s : St) (hl0 : s.kills.length ≤ 1000) (hl : s.undo.length ≤ 1000) (hl2 : s.redo.length ≤ 1000) : ∀ n i k (a : Int), s.kills.length = i + n → n + s.undo.length + s.redo.length + 2 < k → 0 ≤ a → a + sumK (s.kills.drop i) + sumN s.undo + sumN s.redo ≤ 1000000000000000000 →
    jobshelllaw46_few.l0 k a (i : Int) s.text s.pos s.mark s.kills s.undo s.redo s.keys s.last s.line s.saved = some (decide (a + sumK (s.kills.drop i) + sumN s.undo + sumN s.redo ≤ 30000))
  | 0, i, k + 1, a, h, hk, h0, h1 => by
    rw [List.drop_eq_nil_of_le (by omega)] at h1 ⊢
    have e : a + sumK [] = a := by unfold sumK; simp
    rw [e] at h1 ⊢
    have h2 := few_l1 s hl hl2 s.undo.length 0 k a (by omega) (by omega) h0 (by rw [List.drop_zero]; exact h1)
    rw [List.drop_zero] at h2
    rw [jobshelllaw46_few.l0, if_neg (by omega)]
    exact h2
  | n + 1, i, k + 1, a, h, hk, h0, h1 => by
    have hd := drop_at ByteArray.empty s.kills i (by omega)
    rw [hd, sumK_cons] at h1 ⊢
    have hn := sumK_nn (s.kills.drop (i + 1))
    have hn1 := sumN_nn s.undo
    have hn2 := sumN_nn s.redo
    have e : rdOf ByteArray.empty s.kills (i : Int) = s.kills.getD i ByteArray.empty := rfl
    rw [jobshelllaw46_few.l0, if_pos (by omega), if_pos (by omega), wrap_next i (by omega), e, wrap_in (by omega) (by omega), few_l0 s hl0 hl hl2 n (i + 1) k _ (by omega) (by omega) (by omega) (by omega), Int.add_assoc a]
/-- What the statement's sizes say of an editor. -/
structure FewS (s : St) : Prop where
  kills : s.kills.length ≤ 70
  undo : s.undo.length ≤ 70
  redo : s.redo.length ≤ 70
  total : (s.text.size : Int) + (s.saved.size : Int) + (s.keys.size : Int) + sumK s.kills + sumN s.undo + sumN s.redo ≤ 30000
/-- An editor that a machine can hold. -/
structure Held (s : St) : Prop where
  text : s.text.size ≤ 140737488351232
  keys : s.keys.size ≤ 140737488351232
  saved : s.saved.size ≤ 140737488351232
  kills : s.kills.length ≤ 140737488351232
  undo : s.undo.length ≤ 140737488351232
  redo : s.redo.length ≤ 140737488351232
  lines : s.lines.length ≤ 140737488351232
  eachK : ∀ x ∈ s.kills, x.size ≤ 140737488351232
  eachU : ∀ x ∈ s.undo, x.f0.size ≤ 140737488351232
  eachR : ∀ x ∈ s.redo, x.f0.size ≤ 140737488351232
theorem few_f (s : St) (hs : Held s) : ∃ r, jobshelllaw46_few.f 1000 s.text s.pos s.mark s.kills s.undo s.redo s.keys s.last s.line s.saved = some r ∧ (r = true ↔ FewS s) := by
  have hj1 : jobshelllaw46_few.j0 1000 true s.text s.pos s.mark s.kills s.undo s.redo s.keys s.last s.line s.saved = some false := by rw [jobshelllaw46_few.j0, if_pos rfl]
  unfold jobshelllaw46_few.f
  by_cases h1 : (s.kills.length : Int) > 70
  · rw [if_pos h1, hj1]
    exact ⟨false, rfl, fun h => by simp at h, fun h => by have := h.kills; omega⟩
  · rw [if_neg h1]
    by_cases h2 : (s.undo.length : Int) > 70
    · rw [if_pos h2, hj1]
      exact ⟨false, rfl, fun h => by simp at h, fun h => by have := h.undo; omega⟩
    · rw [if_neg h2]
      by_cases h3 : (s.redo.length : Int) > 70
      · rw [decide_eq_true h3, hj1]
        exact ⟨false, rfl, fun h => by simp at h, fun h => by have := h.redo; omega⟩
      · rw [decide_eq_false h3]
        have k1 := sumK_le 140737488351232 s.kills (fun x hx => by have := hs.eachK x hx; omega)
        have k2 := sumN_le 140737488351232 s.undo (fun x hx => by have := hs.eachU x hx; omega)
        have k3 := sumN_le 140737488351232 s.redo (fun x hx => by have := hs.eachR x hx; omega)
        have t1 := hs.text
        have t2 := hs.keys
        have t3 := hs.saved
        have hl := few_l0 s (by omega) (by omega) (by omega) s.kills.length 0 999 ((s.text.size : Int) + (s.saved.size : Int) + (s.keys.size : Int)) (by omega) (by omega) (by omega) (by rw [List.drop_zero]; omega)
        rw [List.drop_zero] at hl
        refine ⟨decide ((s.text.size : Int) + (s.saved.size : Int) + (s.keys.size : Int) + sumK s.kills + sumN s.undo + sumN s.redo ≤ 30000), ?_, ?_⟩
        · rw [jobshelllaw46_few.j0, if_neg (by decide), wrap_in (x := (s.text.size : Int) + (s.saved.size : Int)) (by omega) (by omega), wrap_in (by omega) (by omega)]
          exact hl
        · rw [decide_eq_true_eq]
          exact ⟨fun h => ⟨by omega, by omega, by omega, h⟩, fun h => h.total⟩
theorem lines_l0 (off : Int) (l : List ByteArray) (hl : l.length ≤ 1000) : ∀ n i k (a : Int), l.length = i + n → n < k → ∃ r, jobshelllaw46_lines.l0 k a (i : Int) off l = some r
  | 0, i, k + 1, a, h, _ => by
    rw [jobshelllaw46_lines.l0, if_neg (by omega)]
    exact ⟨_, rfl⟩
  | n + 1, i, k + 1, a, h, hk => by
    rw [jobshelllaw46_lines.l0, if_pos (by omega), if_pos (by omega), wrap_next i (by omega)]
    split
    · exact ⟨_, rfl⟩
    · exact lines_l0 off l hl n (i + 1) k _ (by omega) (by omega)
theorem lines_f (off : Int) (l : List ByteArray) : ∃ r, jobshelllaw46_lines.f 1000 off l = some r ∧ (r = true → l.length ≤ 200) := by
  unfold jobshelllaw46_lines.f
  by_cases h : (l.length : Int) > 200
  · rw [if_pos h]
    exact ⟨false, rfl, fun h => by simp at h⟩
  · rw [if_neg h]
    obtain ⟨r, hr⟩ := lines_l0 off l (by omega) l.length 0 1000 0 (by omega) (by omega)
    exact ⟨r, hr, fun _ => by omega⟩
/-- An editor that the statements speak of. -/
structure Good (s : St) : Prop where
  text : s.text.size ≤ 4096
  undoL : longB s.undo = false
  redoL : longB s.redo = false
  saved : s.saved.size ≤ 4096
  keys : s.keys.size ≤ 16
  killsL : killL s.kills = false
  low : 0 ≤ s.pos
  high : s.pos ≤ s.text.size
  undoO : outB s.undo = false
  redoO : outB s.redo = false
  mark0 : 0 ≤ s.mark
  mark1 : s.mark ≤ s.text.size
  last0 : 0 ≤ s.last
  last1 : s.last ≤ 28
  line0 : 0 ≤ s.line
  line1 : s.line ≤ 128
  kills : s.kills.length ≤ 16
  undo : s.undo.length ≤ 64
  redo : s.redo.length ≤ 64
theorem good_of (s : St) (h : validI s = 0) : Good s := by
  unfold validI at h
  split at h
  · simp at h
  · rename_i h1
    split at h
    · simp at h
    · rename_i h2
      split at h
      · simp at h
      · rename_i h3
        simp only [tooLong, offRange, tooMany, Bool.or_eq_true, not_or, decide_eq_true_eq, Bool.not_eq_true] at h1 h2 h3
        obtain ⟨⟨⟨⟨⟨a1, a2⟩, a3⟩, a4⟩, a5⟩, a6⟩ := h1
        obtain ⟨⟨⟨⟨⟨⟨⟨⟨b1, b2⟩, b3⟩, b4⟩, b5⟩, b6⟩, b7⟩, b8⟩, b9⟩ := h2
        obtain ⟨⟨c1, c2⟩, c3⟩ := h3
        have a1' : ¬ ((s.text.size : Int) > 4096) := by simpa [longB] using a1
        have b1' : ¬ (s.pos < 0) ∧ ¬ (s.pos > (s.text.size : Int)) := by simpa [outB] using b1
        exact ⟨by omega, a2, a3, by omega, by omega, a6, by omega, by omega, b2, b3, by omega, by omega, by omega, by omega, by omega, by omega, by omega, by omega, by omega⟩
theorem killL_mem {l : List ByteArray} (h : killL l = false) : ∀ x ∈ l, x.size ≤ 4096 := by
  intro x hx
  have := List.any_eq_false.mp h x hx
  simp only [decide_eq_true_eq] at this
  omega
theorem Good.ok {s : St} (h : Good s) (hl : s.lines.length ≤ 200) : OkS s := by
  have g1 := h.text
  have g2 := h.line1
  have g12 := h.kills
  have g13 := h.undo
  have g14 := h.redo
  exact ⟨by omega, by omega, by omega, fun k hk => by have := killL_mem h.killsL k hk; omega, h.low, h.high, by omega, by omega, h.line0, by omega⟩
end Go.Proofs.Ytlbbjdggebgabaa.P
end

section
/- Plain facts: an action makes a good editor of a good one. -/
namespace Go.Proofs.Ytlbbjdggebgabaa.P
open Go.RowKit Go.Proofs.YtlbbjdggebgabaaW.PrintWords Go.Proofs.YtlbbjdggebgabaaW.PrintLast Go.Proofs.YtlbbjdggebgabaaW.PrintMore
set_option linter.unusedVariables false
set_option linter.unusedSimpArgs false

theorem any_push {p : S23 → Bool} {l : List S23} {x : S23} (h : l.any p = false) (hx : p x = false) : (pushS l x).any p = false := by
  unfold pushS
  have h2 : (l ++ [x]).any p = false := by rw [List.any_append, h]; simp [hx]
  split
  · rw [List.any_eq_false] at h2 ⊢
    exact fun y hy => h2 y (List.mem_of_mem_drop hy)
  · exact h2
theorem len_push {l : List S23} {x : S23} (h : l.length ≤ 64) : (pushS l x).length ≤ 64 := by
  unfold pushS
  split
  · simp; omega
  · omega
theorem push_ne (l : List S23) (x : S23) : pushS l x ≠ [] ∧ lastS (pushS l x) = x := by
  unfold pushS lastS
  split
  · rename_i h
    have hl : 0 < l.length := by simp at h; omega
    obtain ⟨y, t, rfl⟩ := List.exists_cons_of_length_pos hl
    simp
  · simp
theorem now_long {s : St} (h : Good s) : decide (((⟨s.text, s.pos⟩ : S23).f0.size : Int) > 4096) = false := by have := h.text; exact decide_eq_false (by show ¬ ((s.text.size : Int) > 4096); omega)
theorem now_out {s : St} (h : Good s) : (decide ((⟨s.text, s.pos⟩ : S23).f1 < 0) || decide ((⟨s.text, s.pos⟩ : S23).f1 > ((⟨s.text, s.pos⟩ : S23).f0.size : Int))) = false := by
  have h1 := h.low
  have h2 := h.high
  show (decide (s.pos < 0) || decide (s.pos > (s.text.size : Int))) = false
  rw [decide_eq_false (by omega), decide_eq_false (by omega)]
  rfl
theorem clamp_good {s : St} (h1 : s.text.size ≤ 4096) (h2 : longB s.undo = false) (h3 : longB s.redo = false) (h4 : s.saved.size ≤ 4096) (h5 : s.keys.size ≤ 16) (h6 : killL s.kills = false) (h7 : 0 ≤ s.pos) (h8 : s.pos ≤ s.text.size) (h9 : outB s.undo = false) (h10 : outB s.redo = false)
    (h11 : 0 ≤ s.mark) (h13 : 0 ≤ s.last) (h14 : s.last ≤ 28) (h15 : 0 ≤ s.line) (h16 : s.line ≤ 128) (h17 : s.kills.length ≤ 16) (h18 : s.undo.length ≤ 64) (h19 : s.redo.length ≤ 64) : Good (clampS s) := by
  refine ⟨h1, h2, h3, h4, h5, h6, h7, h8, h9, h10, ?_, ?_, h13, h14, h15, h16, h17, h18, h19⟩
  · unfold clampS; dsimp only; split <;> omega
  · unfold clampS; dsimp only; split <;> omega
theorem set_good {s : St} (h : Good s) (a : Int) (t : ByteArray) (p : Int) (h0 : 0 ≤ p) (h1 : p ≤ t.size) : Good (setS s a t p).1 := by
  unfold setS
  split
  · exact h
  · rename_i g1
    split
    · rename_i g2
      have e : t = s.text := by
        rw [ByteArray.toList_eq, ByteArray.toList_eq] at g2
        exact ByteArray.ext (Array.ext' g2)
      subst e
      exact ⟨h.text, h.undoL, h.redoL, h.saved, h.keys, h.killsL, h0, h1, h.undoO, h.redoO, h.mark0, h.mark1, h.last0, h.last1, h.line0, h.line1, h.kills, h.undo, h.redo⟩
    · refine clamp_good (by show t.size ≤ 4096; omega) ?_ rfl h.saved h.keys h.killsL h0 h1 ?_ rfl h.mark0 h.last0 h.last1 h.line0 h.line1 h.kills ?_ (Nat.zero_le _)
      · dsimp only
        split
        · exact h.undoL
        · exact any_push h.undoL (now_long h)
      · dsimp only
        split
        · exact h.undoO
        · exact any_push h.undoO (now_out h)
      · dsimp only
        split
        · exact h.undo
        · exact len_push h.undo
theorem Good.withLast {s : St} (h : Good s) {a : Int} (h0 : 0 ≤ a) (h1 : a ≤ 28) : Good { s with last := a } :=
  ⟨h.text, h.undoL, h.redoL, h.saved, h.keys, h.killsL, h.low, h.high, h.undoO, h.redoO, h.mark0, h.mark1, h0, h1, h.line0, h.line1, h.kills, h.undo, h.redo⟩
theorem Good.withKills {s : St} (h : Good s) {l : List ByteArray} (h0 : killL l = false) (h1 : l.length ≤ 16) : Good { s with kills := l } :=
  ⟨h.text, h.undoL, h.redoL, h.saved, h.keys, h0, h.low, h.high, h.undoO, h.redoO, h.mark0, h.mark1, h.last0, h.last1, h.line0, h.line1, h1, h.undo, h.redo⟩
theorem Good.withPos {s : St} (h : Good s) {p m : Int} (h0 : 0 ≤ p) (h1 : p ≤ s.text.size) (h2 : 0 ≤ m) (h3 : m ≤ s.text.size) : Good { s with pos := p, mark := m } :=
  ⟨h.text, h.undoL, h.redoL, h.saved, h.keys, h.killsL, h0, h1, h.undoO, h.redoO, h2, h3, h.last0, h.last1, h.line0, h.line1, h.kills, h.undo, h.redo⟩
theorem killL_of {l : List ByteArray} (h : ∀ x ∈ l, x.size ≤ 4096) : killL l = false := by
  unfold killL
  rw [List.any_eq_false]
  intro x hx
  have := h x hx
  simp only [decide_eq_true_eq]
  omega
theorem insert_good {s : St} (h : Good s) (a : Int) (x : ByteArray) : Good (insertS s a x) := by
  have h1 := h.low
  have h2 := h.high
  unfold insertS spliced
  refine set_good h a _ _ (by omega) ?_
  rw [ByteArray.size_append, ByteArray.size_append, ByteArray.size_extract, ByteArray.size_extract]
  omega
theorem remove_good {s : St} (h : Good s) (a i j : Int) (h0 : 0 ≤ i) (h1 : j ≤ s.text.size) : Good (removeS s a i j) := by
  unfold removeS
  split
  · refine set_good h a _ _ h0 ?_
    rw [ByteArray.size_append, ByteArray.size_extract, ByteArray.size_extract]
    omega
  · exact h
theorem kill_good {s : St} (h : Good s) (a i j : Int) (h0 : 0 ≤ i) (h1 : j ≤ s.text.size) : Good (killS s a i j) := by
  unfold killS
  split
  · have hx : (s.text.extract i.toNat j.toNat).size ≤ 4096 := by have := h.text; rw [ByteArray.size_extract]; omega
    have hm := killL_mem h.killsL
    refine (remove_good h a i j h0 h1).withKills (killL_of ?_) ?_
    · unfold killedS
      split
      · rename_i hj
        unfold joins at hj
        simp only [Bool.and_eq_true, decide_eq_true_eq] at hj
        obtain ⟨⟨_, hne⟩, hsz⟩ := hj
        intro y hy
        rcases List.mem_append.mp hy with hy | hy
        · exact hm y (List.dropLast_subset _ hy)
        · rw [List.mem_singleton] at hy
          rw [hy]
          split <;> (rw [ByteArray.size_append]; omega)
      · intro y hy
        unfold pushK at hy
        have hy2 : y ∈ s.kills ++ [s.text.extract i.toNat j.toNat] := by
          split at hy
          · exact List.mem_of_mem_drop hy
          · exact hy
        rcases List.mem_append.mp hy2 with hy | hy
        · exact hm y hy
        · rw [List.mem_singleton] at hy
          rw [hy]
          exact hx
    · have hk := h.kills
      unfold killedS
      split
      · rename_i hj
        unfold joins at hj
        simp only [Bool.and_eq_true, Bool.not_eq_true', List.isEmpty_eq_false_iff] at hj
        have hne := List.length_pos_iff.mpr hj.1.2
        rw [List.length_append, List.length_dropLast, List.length_singleton]
        omega
      · unfold pushK
        split
        · simp; omega
        · simp at *; omega
  · exact h
theorem lastOf_size {l : List ByteArray} (h : ∀ x ∈ l, x.size ≤ 4096) : (lastOf l).size ≤ 4096 := by
  rcases List.eq_nil_or_concat l with rfl | ⟨a, b, rfl⟩
  · decide
  · exact h _ (last_mem (by simp))
theorem rotate_good {s : St} (h : Good s) : Good (rotateS s) := by
  have h1 := h.low
  have h2 := h.high
  have hk := h.kills
  have hm := killL_mem h.killsL
  unfold rotateS
  split
  · rename_i hr
    have hset : Good (rotSet s).1 := by
      unfold rotSet
      have hf : 0 ≤ rotFrom s ∧ rotFrom s ≤ s.pos := by
        unfold rotates at hr
        simp only [Bool.and_eq_true, decide_eq_true_eq] at hr
        refine ⟨hr.1.2, ?_⟩
        unfold rotFrom
        omega
      refine set_good h _ _ _ (by omega) ?_
      rw [ByteArray.size_append, ByteArray.size_append, ByteArray.size_extract, ByteArray.size_extract]
      omega
    split
    · refine hset.withKills (killL_of ?_) ?_
      · intro y hy
        rcases List.mem_append.mp hy with hy | hy
        · rw [List.mem_singleton] at hy
          rw [hy]
          exact lastOf_size hm
        · exact hm y (List.mem_of_mem_take hy)
      · unfold rotates at hr
        simp only [Bool.and_eq_true, decide_eq_true_eq] at hr
        rw [List.length_append, List.length_take, List.length_singleton]
        omega
    · exact hset
  · exact h
theorem last_memS {l : List S23} (h : l ≠ []) : lastS l ∈ l := by
  rcases List.eq_nil_or_concat l with rfl | ⟨a, b, rfl⟩
  · exact absurd rfl h
  · unfold lastS; simp
theorem any_mem {p : S23 → Bool} {l : List S23} (h : l.any p = false) : ∀ x ∈ l, p x = false := fun x hx => by
  have := List.any_eq_false.mp h x hx
  simpa using this
theorem any_dropLast {p : S23 → Bool} {l : List S23} (h : l.any p = false) : l.dropLast.any p = false := by
  rw [List.any_eq_false] at h ⊢
  exact fun y hy => h y (List.dropLast_subset _ hy)
theorem back_facts {l : List S23} (hl : longB l = false) (ho : outB l = false) (hne : l ≠ []) : (lastS l).f0.size ≤ 4096 ∧ 0 ≤ (lastS l).f1 ∧ (lastS l).f1 ≤ (lastS l).f0.size := by
  have h1 := any_mem hl _ (last_memS hne)
  have h2 := any_mem ho _ (last_memS hne)
  simp only [decide_eq_false_iff_not, Bool.or_eq_false_iff] at h1 h2
  omega
theorem undo_good {s : St} (h : Good s) : Good (undoS s) := by
  unfold undoS
  split
  · exact h
  · rename_i hne
    obtain ⟨b1, b2, b3⟩ := back_facts h.undoL h.undoO hne
    refine clamp_good (s := { s with text := (lastS s.undo).f0, pos := (lastS s.undo).f1, undo := s.undo.dropLast, redo := pushS s.redo ⟨s.text, s.pos⟩ }) b1 (any_dropLast h.undoL) (any_push h.redoL (now_long h)) h.saved h.keys h.killsL b2 b3 (any_dropLast h.undoO) (any_push h.redoO (now_out h)) h.mark0 h.last0 h.last1 h.line0 h.line1 h.kills ?_ (len_push h.redo)
    have := h.undo
    show s.undo.dropLast.length ≤ 64
    rw [List.length_dropLast]
    omega
theorem redo_good {s : St} (h : Good s) : Good (redoS s) := by
  unfold redoS
  split
  · exact h
  · rename_i hne
    obtain ⟨b1, b2, b3⟩ := back_facts h.redoL h.redoO hne
    refine clamp_good (s := { s with text := (lastS s.redo).f0, pos := (lastS s.redo).f1, redo := s.redo.dropLast, undo := pushS s.undo ⟨s.text, s.pos⟩ }) b1 (any_push h.undoL (now_long h)) (any_dropLast h.redoL) h.saved h.keys h.killsL b2 b3 (any_push h.undoO (now_out h)) (any_dropLast h.redoO) h.mark0 h.last0 h.last1 h.line0 h.line1 h.kills (len_push h.undo) ?_
    have := h.redo
    show s.redo.dropLast.length ≤ 64
    rw [List.length_dropLast]
    omega
theorem swap_size (xs : List Int) (i j : Nat) : (strOfNums (swapAt xs i j)).size = xs.length := by rw [strOfNums_size]; unfold swapAt; rw [List.length_set, List.length_set]
theorem trans_good {s : St} (h : Good s) : Good (transS s) := by
  have h1 := h.low
  have h2 := h.high
  unfold transS
  split
  · exact h
  · split
    · exact set_good h _ _ _ h1 (by rw [swap_size, nums_length]; exact h2)
    · exact set_good h _ _ _ (by omega) (by rw [swap_size, nums_length]; omega)
theorem cased_good {s : St} (h : Good s) (a : Int) (n : Nat) (hn : n ≤ s.text.size) : Good (casedS s a n) := by
  unfold casedS
  exact set_good h _ _ _ (by omega) (by rw [strOfNums_size, caseFrom_length, nums_length]; omega)
theorem line_good {s : St} (h : Good s) (k : Int) (h0 : 0 ≤ k) (h1 : k ≤ 128) : Good (lineS s k) := by
  unfold lineS
  split
  · exact h
  · rename_i g
    refine clamp_good (s := { s with text := lineText s k, pos := ((lineText s k).size : Int), undo := [], redo := [], line := k, saved := if k = 0 then ⟨#[]⟩ else if s.line = 0 then s.text else s.saved }) (by show (lineText s k).size ≤ 4096; omega) rfl rfl ?_ h.keys h.killsL (by show (0 : Int) ≤ ((lineText s k).size : Int); omega) (Int.le_refl _) rfl rfl h.mark0 h.last0 h.last1 h0 h1 h.kills (Nat.zero_le _) (Nat.zero_le _)
    dsimp only
    split
    · decide
    · split
      · exact h.text
      · exact h.saved
theorem change_good {s : St} (h : Good s) (a : Int) (x : ByteArray) : Good (changeS s a x) := by
  have h1 := h.low
  have h2 := h.high
  have h3 := h.line0
  have h4 := h.line1
  have we : wordEndS s.text s.pos.toNat ≤ s.text.size := wordEndS_le _ _ (by omega)
  have ws : wordStartS s.text s.pos.toNat ≤ s.pos.toNat := wordStartS_le _ _
  unfold changeS
  by_cases a1 : a = 1
  · rw [if_pos a1]
    exact insert_good h _ _
  rw [if_neg a1]
  by_cases a9 : a = 9
  · rw [if_pos a9]
    split <;> exact remove_good h _ _ _ (by omega) (by omega)
  rw [if_neg a9]
  by_cases a10 : a = 10
  · rw [if_pos a10]
    split <;> exact remove_good h _ _ _ (by omega) (by omega)
  rw [if_neg a10]
  by_cases a23 : a = 23
  · rw [if_pos a23]
    split <;> exact remove_good h _ _ _ (by omega) (by omega)
  rw [if_neg a23]
  by_cases a11 : a = 11
  · rw [if_pos a11]
    exact kill_good h _ _ _ (by omega) (by omega)
  rw [if_neg a11]
  by_cases a12 : a = 12
  · rw [if_pos a12]
    exact kill_good h _ _ _ (by omega) (by omega)
  rw [if_neg a12]
  by_cases a13 : a = 13
  · rw [if_pos a13]
    exact kill_good h _ _ _ (by omega) (by omega)
  rw [if_neg a13]
  by_cases a14 : a = 14
  · rw [if_pos a14]
    exact kill_good h _ _ _ (by omega) (by omega)
  rw [if_neg a14]
  by_cases a15 : a = 15
  · rw [if_pos a15]
    split
    · exact h
    · exact insert_good h _ _
  rw [if_neg a15]
  by_cases a16 : a = 16
  · rw [if_pos a16]
    exact rotate_good h
  rw [if_neg a16]
  by_cases a17 : a = 17
  · rw [if_pos a17]
    exact undo_good h
  rw [if_neg a17]
  by_cases a18 : a = 18
  · rw [if_pos a18]
    exact redo_good h
  rw [if_neg a18]
  by_cases a19 : a = 19
  · rw [if_pos a19]
    exact trans_good h
  rw [if_neg a19]
  by_cases a20 : a = 20
  · rw [if_pos a20]
    unfold upS
    split
    · exact line_good h _ (by omega) (by omega)
    · exact h
  rw [if_neg a20]
  by_cases a21 : a = 21
  · rw [if_pos a21]
    unfold downS
    split
    · exact line_good h _ (by omega) (by omega)
    · exact h
  rw [if_neg a21]
  by_cases a27 : a = 27
  · rw [if_pos a27]
    exact cased_good h _ _ we
  rw [if_neg a27]
  by_cases a28 : a = 28
  · rw [if_pos a28]
    exact cased_good h _ _ we
  rw [if_neg a28]
  exact h
theorem move_good {s : St} (h : Good s) (a : Int) : Good (moveS s a) := by
  have h1 := h.low
  have h2 := h.high
  have h3 := h.mark0
  have h4 := h.mark1
  have we : wordEndS s.text s.pos.toNat ≤ s.text.size := wordEndS_le _ _ (by omega)
  have ws : wordStartS s.text s.pos.toNat ≤ s.pos.toNat := wordStartS_le _ _
  unfold moveS
  repeat' split
  all_goals first
    | exact h
    | exact h.withPos (by omega) (by omega) (by omega) (by omega)
theorem do_good {s : St} (h : Good s) (a : Int) (x : ByteArray) : Good (doS s a x) := by
  unfold doS doneS
  split
  · exact h
  · split
    · exact (move_good h a).withLast (by omega) (by omega)
    · exact (change_good h a x).withLast (by omega) (by omega)
end Go.Proofs.Ytlbbjdggebgabaa.P
end

section
/- Plain facts: up and down again; undo and redo. -/
namespace Go.Proofs.Ytlbbjdggebgabaa.P
open Go.RowKit Go.Proofs.YtlbbjdggebgabaaW.PrintWords Go.Proofs.YtlbbjdggebgabaaW.PrintLast Go.Proofs.YtlbbjdggebgabaaW.PrintMore
set_option linter.unusedVariables false
set_option linter.unusedSimpArgs false

theorem do_20 (s : St) (x : ByteArray) : doS s 20 x = { upS s with last := 20 } := rfl
theorem do_21 (s : St) (x : ByteArray) : doS s 21 x = { downS s with last := 21 } := rfl
theorem do_17 (s : St) (x : ByteArray) : doS s 17 x = { undoS s with last := 17 } := rfl
theorem do_18 (s : St) (x : ByteArray) : doS s 18 x = { redoS s with last := 18 } := rfl

/-- Up and down again. -/
theorem up_down {s : St} (h : Good s) (hl : s.line = 0) (x : ByteArray) : (doS (doS s 20 x) 21 x).text = s.text ∧ (doS (doS s 20 x) 21 x).line = 0 ∧ (0 < s.lines.length → (nthLast s.lines 1).size ≤ 4096 → (doS s 20 x).text = nthLast s.lines 1) := by
  have ht := h.text
  rw [do_20, do_21]
  by_cases h0 : 0 < s.lines.length
  · have hu : upS s = lineS s 1 := by
      unfold upS
      rw [if_pos ⟨by omega, by omega⟩, hl]
      rfl
    have hx : lineText s 1 = nthLast s.lines 1 := by unfold lineText; rw [if_pos (by decide)]
    by_cases h1 : ((nthLast s.lines 1).size : Int) > 4096
    · have hls : lineS s 1 = s := by unfold lineS; rw [hx, if_pos h1]
      rw [hu, hls]
      have hd : downS { s with last := 20 } = { s with last := 20 } := by unfold downS; rw [if_neg (by intro hh; have := hh.1; dsimp only at this; omega)]
      rw [hd]
      exact ⟨rfl, hl, fun _ h2 => by omega⟩
    · have hls : lineS s 1 = clampS { s with text := nthLast s.lines 1, pos := ((nthLast s.lines 1).size : Int), undo := [], redo := [], line := 1, saved := s.text } := by
        unfold lineS
        rw [hx, if_neg h1, if_neg (by decide), if_pos hl]
      rw [hu, hls]
      obtain ⟨X, hX⟩ : ∃ X, X = ({ clampS { s with text := nthLast s.lines 1, pos := ((nthLast s.lines 1).size : Int), undo := [], redo := [], line := 1, saved := s.text } with last := 20 } : St) := ⟨_, rfl⟩
      rw [← hX]
      have e1 : X.line = 1 := by rw [hX]; rfl
      have e2 : X.lines = s.lines := by rw [hX]; rfl
      have e3 : X.saved = s.text := by rw [hX]; rfl
      have e4 : X.text = nthLast s.lines 1 := by rw [hX]; rfl
      have hd : downS X = lineS X 0 := by unfold downS; rw [e1, e2, if_pos ⟨by decide, by omega⟩]; rfl
      have hlt : lineText X 0 = s.text := by unfold lineText; rw [if_neg (by decide), e3]
      rw [hd]
      unfold lineS
      rw [hlt, if_neg (by omega)]
      exact ⟨rfl, rfl, fun _ _ => e4⟩
  · have hu : upS s = s := by unfold upS; rw [if_neg (by omega)]
    rw [hu]
    have hd : downS { s with last := 20 } = { s with last := 20 } := by unfold downS; rw [if_neg (by intro hh; have := hh.1; dsimp only at this; omega)]
    rw [hd]
    exact ⟨rfl, hl, fun h2 => absurd h2 h0⟩

/-- An action left the line, or it laid the line and the cursor down. -/
def Laid1 (s : St) (a : Int) (X : St) : Prop := X.text = s.text ∨ (X.undo = (if a = 1 ∧ s.last = 1 then s.undo else pushS s.undo ⟨s.text, s.pos⟩) ∧ X.redo = [])
theorem set_laid (s : St) (a : Int) (t : ByteArray) (p : Int) : Laid1 s a (setS s a t p).1 := by
  unfold setS
  split
  · exact .inl rfl
  · split
    · rename_i g2
      refine .inl ?_
      rw [ByteArray.toList_eq, ByteArray.toList_eq] at g2
      exact ByteArray.ext (Array.ext' g2)
    · exact .inr ⟨rfl, rfl⟩
theorem remove_laid (s : St) (a i j : Int) : Laid1 s a (removeS s a i j) := by
  unfold removeS
  split
  · exact set_laid _ _ _ _
  · exact .inl rfl
theorem kill_laid (s : St) (a i j : Int) : Laid1 s a (killS s a i j) := by
  unfold killS
  split
  · exact remove_laid s a i j
  · exact .inl rfl
theorem rotate_laid (s : St) : Laid1 s 16 (rotateS s) := by
  have h : Laid1 s 16 (rotSet s).1 := set_laid s 16 _ _
  unfold rotateS
  by_cases hr : rotates s = true
  · rw [if_pos hr]
    by_cases h2 : (rotSet s).2 = true
    · rw [if_pos h2]
      obtain ⟨Z, hZ⟩ : ∃ Z, Z = (rotSet s).1 := ⟨_, rfl⟩
      rw [← hZ] at h ⊢
      exact h
    · rw [if_neg h2]
      exact h
  · rw [if_neg hr]
    exact .inl rfl
theorem trans_laid (s : St) : Laid1 s 19 (transS s) := by
  unfold transS
  split
  · exact .inl rfl
  · split <;> exact set_laid _ _ _ _
theorem change_laid (s : St) (a : Int) (x : ByteArray) (h17 : a ≠ 17) (h18 : a ≠ 18) (h20 : a ≠ 20) (h21 : a ≠ 21) : Laid1 s a (changeS s a x) := by
  unfold changeS
  by_cases a1 : a = 1
  · rw [if_pos a1, a1]; exact set_laid _ _ _ _
  rw [if_neg a1]
  by_cases a9 : a = 9
  · rw [if_pos a9, a9]; exact remove_laid _ _ _ _
  rw [if_neg a9]
  by_cases a10 : a = 10
  · rw [if_pos a10, a10]; exact remove_laid _ _ _ _
  rw [if_neg a10]
  by_cases a23 : a = 23
  · rw [if_pos a23, a23]; exact remove_laid _ _ _ _
  rw [if_neg a23]
  by_cases a11 : a = 11
  · rw [if_pos a11, a11]; exact kill_laid _ _ _ _
  rw [if_neg a11]
  by_cases a12 : a = 12
  · rw [if_pos a12, a12]; exact kill_laid _ _ _ _
  rw [if_neg a12]
  by_cases a13 : a = 13
  · rw [if_pos a13, a13]; exact kill_laid _ _ _ _
  rw [if_neg a13]
  by_cases a14 : a = 14
  · rw [if_pos a14, a14]; exact kill_laid _ _ _ _
  rw [if_neg a14]
  by_cases a15 : a = 15
  · rw [if_pos a15, a15]
    split
    · exact .inl rfl
    · exact set_laid _ _ _ _
  rw [if_neg a15]
  by_cases a16 : a = 16
  · rw [if_pos a16, a16]; exact rotate_laid s
  rw [if_neg a16, if_neg h17, if_neg h18]
  by_cases a19 : a = 19
  · rw [if_pos a19, a19]; exact trans_laid s
  rw [if_neg a19, if_neg h20, if_neg h21]
  by_cases a27 : a = 27
  · rw [if_pos a27, a27]; exact set_laid _ _ _ _
  rw [if_neg a27]
  by_cases a28 : a = 28
  · rw [if_pos a28, a28]; exact set_laid _ _ _ _
  rw [if_neg a28]
  exact .inl rfl
theorem move_text (s : St) (a : Int) : (moveS s a).text = s.text := by
  unfold moveS
  repeat' split
  all_goals rfl
theorem do_laid (s : St) (a : Int) (x : ByteArray) (h17 : a ≠ 17) (h18 : a ≠ 18) (h20 : a ≠ 20) (h21 : a ≠ 21) : Laid1 s a (doS s a x) := by
  unfold doS doneS
  split
  · exact .inl rfl
  · split
    · exact .inl (move_text s a)
    · exact change_laid s a x h17 h18 h20 h21
/-- Undo and redo. -/
theorem undo_redo (s : St) (a : Int) (x y : ByteArray) (h17 : a ≠ 17) (h18 : a ≠ 18) (h20 : a ≠ 20) (h21 : a ≠ 21) (ht : (doS s a x).text ≠ s.text) (hi : ¬ (a = 1 ∧ s.last = 1)) :
    (doS (doS s a x) 17 y).text = s.text ∧ (doS (doS s a x) 17 y).pos = s.pos ∧ (doS (doS (doS s a x) 17 y) 18 y).text = (doS s a x).text ∧ (doS (doS (doS s a x) 17 y) 18 y).pos = (doS s a x).pos := by
  have hl := do_laid s a x h17 h18 h20 h21
  obtain ⟨X, hX⟩ : ∃ X, X = doS s a x := ⟨_, rfl⟩
  rw [← hX] at hl ht ⊢
  rcases hl with h | ⟨h1, h2⟩
  · exact absurd h ht
  · rw [if_neg hi] at h1
    have hp := push_ne s.undo ⟨s.text, s.pos⟩
    rw [do_17, do_18]
    have hu : undoS X = { backS X X.undo with undo := X.undo.dropLast, redo := pushS X.redo ⟨X.text, X.pos⟩ } := by unfold undoS; rw [if_neg (by rw [h1]; exact hp.1)]
    have e1 : (undoS X).text = s.text := by rw [hu]; show (lastS X.undo).f0 = s.text; rw [h1, hp.2]
    have e2 : (undoS X).pos = s.pos := by rw [hu]; show (lastS X.undo).f1 = s.pos; rw [h1, hp.2]
    have e3 : (undoS X).redo = [⟨X.text, X.pos⟩] := by rw [hu]; show pushS X.redo ⟨X.text, X.pos⟩ = _; rw [h2]; rfl
    obtain ⟨Y, hY⟩ : ∃ Y, Y = ({ undoS X with last := 17 } : St) := ⟨_, rfl⟩
    rw [← hY]
    have f1 : Y.text = s.text := by rw [hY]; exact e1
    have f2 : Y.pos = s.pos := by rw [hY]; exact e2
    have f3 : Y.redo = [⟨X.text, X.pos⟩] := by rw [hY]; exact e3
    have hr : redoS Y = { backS Y Y.redo with redo := Y.redo.dropLast, undo := pushS Y.undo ⟨Y.text, Y.pos⟩ } := by unfold redoS; rw [if_neg (by rw [f3]; simp)]
    refine ⟨f1, f2, ?_, ?_⟩
    · show (redoS Y).text = X.text
      rw [hr]
      show (lastS Y.redo).f0 = X.text
      rw [f3]; rfl
    · show (redoS Y).pos = X.pos
      rw [hr]
      show (lastS Y.redo).f1 = X.pos
      rw [f3]; rfl
/-- The history stays. -/
def Hist (s X : St) : Prop := X.lines = s.lines ∧ X.off = s.off
theorem set_hist (s : St) (a : Int) (t : ByteArray) (p : Int) : Hist s (setS s a t p).1 := by
  unfold setS
  split
  · exact ⟨rfl, rfl⟩
  · split
    · exact ⟨rfl, rfl⟩
    · exact ⟨rfl, rfl⟩
theorem remove_hist (s : St) (a i j : Int) : Hist s (removeS s a i j) := by
  unfold removeS
  split
  · exact set_hist _ _ _ _
  · exact ⟨rfl, rfl⟩
theorem kill_hist (s : St) (a i j : Int) : Hist s (killS s a i j) := by
  unfold killS
  split
  · exact remove_hist s a i j
  · exact ⟨rfl, rfl⟩
theorem rotate_hist (s : St) : Hist s (rotateS s) := by
  have h : Hist s (rotSet s).1 := set_hist s 16 _ _
  unfold rotateS
  by_cases hr : rotates s = true
  · rw [if_pos hr]
    by_cases h2 : (rotSet s).2 = true
    · rw [if_pos h2]
      obtain ⟨Z, hZ⟩ : ∃ Z, Z = (rotSet s).1 := ⟨_, rfl⟩
      rw [← hZ] at h ⊢
      exact h
    · rw [if_neg h2]
      exact h
  · rw [if_neg hr]
    exact ⟨rfl, rfl⟩
theorem trans_hist (s : St) : Hist s (transS s) := by
  unfold transS
  split
  · exact ⟨rfl, rfl⟩
  · split <;> exact set_hist _ _ _ _
theorem line_hist (s : St) (k : Int) : Hist s (lineS s k) := by
  unfold lineS
  split <;> exact ⟨rfl, rfl⟩
theorem change_hist (s : St) (a : Int) (x : ByteArray) : Hist s (changeS s a x) := by
  unfold changeS
  by_cases a1 : a = 1
  · rw [if_pos a1]
    exact set_hist _ _ _ _
  rw [if_neg a1]
  by_cases a9 : a = 9
  · rw [if_pos a9]
    exact remove_hist _ _ _ _
  rw [if_neg a9]
  by_cases a10 : a = 10
  · rw [if_pos a10]
    exact remove_hist _ _ _ _
  rw [if_neg a10]
  by_cases a23 : a = 23
  · rw [if_pos a23]
    exact remove_hist _ _ _ _
  rw [if_neg a23]
  by_cases a11 : a = 11
  · rw [if_pos a11]
    exact kill_hist _ _ _ _
  rw [if_neg a11]
  by_cases a12 : a = 12
  · rw [if_pos a12]
    exact kill_hist _ _ _ _
  rw [if_neg a12]
  by_cases a13 : a = 13
  · rw [if_pos a13]
    exact kill_hist _ _ _ _
  rw [if_neg a13]
  by_cases a14 : a = 14
  · rw [if_pos a14]
    exact kill_hist _ _ _ _
  rw [if_neg a14]
  by_cases a15 : a = 15
  · rw [if_pos a15]
    split
    · exact ⟨rfl, rfl⟩
    · exact set_hist _ _ _ _
  rw [if_neg a15]
  by_cases a16 : a = 16
  · rw [if_pos a16]
    exact rotate_hist s
  rw [if_neg a16]
  by_cases a17 : a = 17
  · rw [if_pos a17]
    unfold undoS
    split <;> exact ⟨rfl, rfl⟩
  rw [if_neg a17]
  by_cases a18 : a = 18
  · rw [if_pos a18]
    unfold redoS
    split <;> exact ⟨rfl, rfl⟩
  rw [if_neg a18]
  by_cases a19 : a = 19
  · rw [if_pos a19]
    exact trans_hist s
  rw [if_neg a19]
  by_cases a20 : a = 20
  · rw [if_pos a20]
    unfold upS
    split
    · exact line_hist _ _
    · exact ⟨rfl, rfl⟩
  rw [if_neg a20]
  by_cases a21 : a = 21
  · rw [if_pos a21]
    unfold downS
    split
    · exact line_hist _ _
    · exact ⟨rfl, rfl⟩
  rw [if_neg a21]
  by_cases a27 : a = 27
  · rw [if_pos a27]
    exact set_hist _ _ _ _
  rw [if_neg a27]
  by_cases a28 : a = 28
  · rw [if_pos a28]
    exact set_hist _ _ _ _
  rw [if_neg a28]
  exact ⟨rfl, rfl⟩
theorem do_keep (s : St) (a : Int) (x : ByteArray) : (doS s a x).lines = s.lines ∧ (doS s a x).off = s.off := by
  unfold doS doneS
  split
  · exact ⟨rfl, rfl⟩
  · split
    · show Hist s (moveS s a)
      unfold moveS
      repeat' split
      all_goals exact ⟨rfl, rfl⟩
    · exact change_hist s a x
end Go.Proofs.Ytlbbjdggebgabaa.P
end
